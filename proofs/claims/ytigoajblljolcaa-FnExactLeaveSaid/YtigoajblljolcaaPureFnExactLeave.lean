/- The program's Leave gives what the reference's Leave gives, for every argument; its result shares no memory with the argument or another result. No condition. -/
import Derived.Test.YtigoajblljolcaaArgsFnExactLeave
namespace Go.Proofs.Ytigoajblljolcaa.Pure
open Go.RowKit Go.Proofs.Ytigoajblljolcaa.AFnExactLeave Go.Proofs.Ytigoajblljolcaa.XFnExactLeave Go.Proofs.YtigoajblljolcaaW.PrintWords Go.Proofs.YtigoajblljolcaaW.PrintLast
set_option linter.unusedSimpArgs false
set_option linter.unusedVariables false
theorem wrap_up {i : Int} {n : Nat} (h0 : 0 ≤ i) (h : i < (n : Int)) (hn : n ≤ 9223372036854775807) : wrap64 (i + 1) = i + 1 := by
  unfold wrap64; omega
theorem evPos {α : Type} {g : Nat → Option α} {r : α} (h : Ev (fun k => g (k + 1)) r) : Ev g r := by
  obtain ⟨K, hK⟩ := h
  refine ⟨K + 1, fun k hk => ?_⟩
  obtain ⟨m, rfl⟩ : ∃ m, k = m + 1 := ⟨k - 1, by omega⟩
  exact hK m (by omega)
theorem evConst {α : Type} {a : Option α} {r : α} (h : a = some r) : Ev (fun _ => a) r := ⟨0, fun _ _ => h⟩
theorem evShift {α : Type} {g : Nat → Option α} {r : α} (h : Ev g r) : Ev (fun k => g (k + 1)) r := by
  obtain ⟨K, hK⟩ := h
  exact ⟨K, fun k hk => hK (k + 1) (by omega)⟩
theorem evVal {α : Type} {g : Nat → Option α} {r r' : α} (h : Ev g r) (e : r = r') : Ev g r' := e ▸ h
theorem rd_lt {l : List Int} {i : Int} (h0 : 0 ≤ i) (h : i < (l.length : Int)) : rd l i = l[i.toNat]'(by omega) := by
  unfold rd; rw [List.getD_eq_getElem?_getD, List.getElem?_eq_getElem (by omega)]; rfl
theorem within_eq (a b c : Int) : impl_within.f a b c = some (decide (b ≤ a) && decide (a ≤ c)) := by
  unfold impl_within.f
  by_cases h : b ≤ a <;> simp [h]
def memB (a b c : Int) : Bool := decide (0 ≤ a) && decide (a ≤ 11) && (decide (0 ≤ b) && decide (b ≤ 3)) && (decide (0 ≤ c) && decide (c ≤ 1000))
theorem specMemberOk_eq (a b c : Int) : spec_MemberOk.f a b c = some (memB a b c) := by
  unfold spec_MemberOk.f memB
  by_cases h1 : 0 ≤ a <;> by_cases h2 : a ≤ 11 <;> by_cases h3 : 0 ≤ b <;> by_cases h4 : b ≤ 3 <;> by_cases h5 : 0 ≤ c <;> simp [h1, h2, h3, h4, h5] <;> omega
theorem implMemberOk_eq (a b c : Int) : impl_MemberOk.f a b c = some (memB a b c) := by
  unfold impl_MemberOk.f memB
  simp only [within_eq, Option.bind_some]
  by_cases h1 : 0 ≤ a <;> by_cases h2 : a ≤ 11 <;> by_cases h3 : 0 ≤ b <;> by_cases h4 : b ≤ 3 <;> simp [h1, h2, h3, h4]
/-! Tables of members: their size, copied, compared. -/
def cvM (x : S80) : S82 := ⟨x.f0, x.f1, x.f2⟩
theorem rdML_lt {l : List S80} {i : Int} (h0 : 0 ≤ i) (h : i < (l.length : Int)) : rd_T80 l i = l[i.toNat]'(by omega) := by
  unfold rd_T80; rw [List.getD_eq_getElem?_getD, List.getElem?_eq_getElem (by omega)]; rfl
theorem szTable_at (a x : Int) (l : List S80) (hl : l.length ≤ 9223372036854775807) (hx : -1 ≤ x) (hx' : x ≤ 1048576) : laws_szTable.f a l x = some (if (l.length : Int) ≤ x then x - (l.length : Int) else -1) := by
  unfold laws_szTable.f laws_szMemberS.f
  have w : wrap64 (x - (l.length : Int)) = x - l.length := by unfold wrap64; omega
  rw [w]
  by_cases h : (l.length : Int) ≤ x
  · rw [if_neg (by omega), if_pos h, Option.bind_some, if_neg (by omega)]
  · rw [if_pos (by omega), if_neg h, Option.bind_some, if_pos (by omega)]
theorem szTable_eq (a : Int) (l : List S80) (hl : l.length ≤ 9223372036854775807) : laws_szTable.f a l 1048576 = some (if (l.length : Int) ≤ 1048576 then 1048576 - (l.length : Int) else -1) := szTable_at a 1048576 l hl (by omega) (by omega)
theorem toMemberS_loop (l : List S80) (hl : l.length ≤ 1048576) (d : Nat) : ∀ (x : List S82) (i : Int), 0 ≤ i → i ≤ l.length → (l.length : Int) - i = d → x.length = l.length → x.take i.toNat = (l.map cvM).take i.toNat →
    Ev (fun k => laws_toMemberS.l0 k l x i) (l.map cvM) := by
  induction d with
  | zero =>
    intro x i h0 h1 hd hx ht
    have hge : ¬ i < (l.length : Int) := by omega
    refine evPos ?_
    simp only [laws_toMemberS.l0, if_neg hge]
    refine evConst ?_
    rw [List.take_of_length_le (by omega), List.take_of_length_le (by simp; omega)] at ht
    rw [ht]
  | succ d ih =>
    intro x i h0 h1 hd hx ht
    have hlt : i < (l.length : Int) := by omega
    have hlt' : i < (x.length : Int) := by omega
    refine evPos ?_
    have hw : wrap64 (i + 1) = i + 1 := wrap_up h0 hlt (by omega)
    simp only [laws_toMemberS.l0, if_pos hlt, if_pos h0, rdML_lt h0 hlt, if_pos hlt', laws_toMember.f, Option.bind_some, hw]
    refine ih _ (i + 1) (by omega) (by omega) (by omega) (by simp [hx]) ?_
    have e : (i + 1).toNat = i.toNat + 1 := by omega
    rw [e, List.take_succ_eq_append_getElem (by simp; omega), List.take_succ_eq_append_getElem (by simp; omega)]
    rw [List.take_set_of_le (Nat.le_refl _), ht, List.getElem_set_self, List.getElem_map]
    rfl
theorem toTable_ev (a : Int) (l : List S80) (hl : l.length ≤ 1048576) : Ev (fun k => laws_toTable.f k a l) (a, l.map cvM) := by
  unfold laws_toTable.f
  have h : Ev (fun k => laws_toMemberS.f k l) (l.map cvM) := by
    unfold laws_toMemberS.f
    have h1 : 0 ≤ (l.length : Int) := by omega
    have h2 : ((l.length : Int)).toNat ≤ 11728124029610 := by omega
    simp only [if_pos h1, if_pos h2]
    exact toMemberS_loop l hl l.length _ 0 (by omega) (by omega) (by omega) (by simp) (by simp)
  exact Ev.bind h (Ev.now _)
theorem eqMemberS_loop (l : List S82) (hl : l.length ≤ 1048576) (d : Nat) : ∀ (i : Int), 0 ≤ i → i ≤ l.length → (l.length : Int) - i = d → Ev (fun k => laws_eqMemberS.l0 k l l i) true := by
  induction d with
  | zero =>
    intro i h0 h1 hd
    have hge : ¬ i < (l.length : Int) := by omega
    refine evPos ?_
    simp only [laws_eqMemberS.l0, if_neg hge]
    exact Ev.now _
  | succ d ih =>
    intro i h0 h1 hd
    have hlt : i < (l.length : Int) := by omega
    refine evPos ?_
    have hw : wrap64 (i + 1) = i + 1 := wrap_up h0 hlt (by omega)
    simp only [laws_eqMemberS.l0, if_pos hlt, if_pos h0, hw, laws_eqMember.f, if_true, Option.bind_some]
    exact ih (i + 1) (by omega) (by omega) (by omega)
theorem eqTable_ev (a : Int) (l : List S82) (hl : l.length ≤ 1048576) : Ev (fun k => laws_eqTable.f k a l a l) true := by
  unfold laws_eqTable.f
  simp only [if_true]
  have h : Ev (fun k => laws_eqMemberS.f k l l) true := by
    unfold laws_eqMemberS.f
    simp only [if_true]
    exact eqMemberS_loop l hl l.length 0 (by omega) (by omega) (by omega)
  refine Ev.bind h ?_
  simp only [if_true]
  exact Ev.now _
/-! A table marked and found: what was marked is found so. -/
def marksM (a : Int) (n : Nat) : List S82 := (List.range n).map fun (i : Nat) => ⟨a + 3 * (i : Int), a + 3 * (i : Int) + 1, a + 3 * (i : Int) + 2⟩
theorem marksM_length (a : Int) (n : Nat) : (marksM a n).length = n := by simp [marksM]
theorem rdM_lt {l : List S82} {i : Int} (h0 : 0 ≤ i) (h : i < (l.length : Int)) : rd_T82 l i = l[i.toNat]'(by omega) := by
  unfold rd_T82; rw [List.getD_eq_getElem?_getD, List.getElem?_eq_getElem (by omega)]; rfl
theorem rdM_set {l : List S82} {i : Int} (h0 : 0 ≤ i) (h : i < (l.length : Int)) (v : S82) : rd_T82 (l.set i.toNat v) i = v := by
  rw [rdM_lt h0 (by simpa using h), List.getElem_set_self]
theorem marksM_rd (a : Int) (n : Nat) {i : Int} (h0 : 0 ≤ i) (h : i < (n : Int)) : rd_T82 (marksM a n) i = ⟨a + 3 * i, a + 3 * i + 1, a + 3 * i + 2⟩ := by
  rw [rdM_lt h0 (by rw [marksM_length]; exact h)]
  simp only [marksM, List.getElem_map, List.getElem_range]
  have e : ((i.toNat : Nat) : Int) = i := by omega
  rw [e]
theorem markMS_loop (n : Nat) (a : Int) (ha : 0 ≤ a) (hn : a + 3 * n ≤ 4611686018427387904) (d : Nat) : ∀ (x : List S82) (i : Int), 0 ≤ i → i ≤ n → (n : Int) - i = d → x.length = n → x.take i.toNat = (marksM a n).take i.toNat →
    Ev (fun k => laws_markMemberS.l0 k x (a + 3 * i) i) (a + 3 * n, marksM a n) := by
  induction d with
  | zero =>
    intro x i h0 h1 hd hx ht
    have hge : ¬ i < (x.length : Int) := by omega
    refine evPos ?_
    simp only [laws_markMemberS.l0, if_neg hge]
    refine evConst ?_
    have e : i.toNat = n := by omega
    have ei : i = n := by omega
    rw [e] at ht
    rw [List.take_of_length_le (by omega), List.take_of_length_le (by rw [marksM_length]; omega)] at ht
    rw [ht, ei]
  | succ d ih =>
    intro x i h0 h1 hd hx ht
    refine evPos ?_
    have hlt : i < (x.length : Int) := by omega
    have hw : wrap64 (i + 1) = i + 1 := by unfold wrap64; omega
    have w1 : wrap64 (a + 3 * i + 1) = a + 3 * i + 1 := by unfold wrap64; omega
    have w2 : wrap64 (a + 3 * i + 1 + 1) = a + 3 * i + 2 := by unfold wrap64; omega
    have w3 : wrap64 (a + 3 * i + 2 + 1) = a + 3 * (i + 1) := by unfold wrap64; omega
    simp only [laws_markMemberS.l0, if_pos hlt, if_pos h0, Option.bind_some, w1, w2, w3, hw, List.set_set, rdM_set h0 hlt]
    refine ih _ (i + 1) (by omega) (by omega) (by omega) (by simp [hx]) ?_
    have e : (i + 1).toNat = i.toNat + 1 := by omega
    have hi : i.toNat < (marksM a n).length := by rw [marksM_length]; omega
    have hi' : i.toNat < x.length := by omega
    rw [e, List.take_succ_eq_append_getElem hi, List.take_succ_eq_append_getElem (by simpa using hi'), List.take_set_of_le (Nat.le_refl _), ht, List.getElem_set_self, ← rdM_lt h0 (by rw [marksM_length]; omega), marksM_rd a n h0 (by omega)]
theorem markTab_ev (s : Int) (l : List S82) (a : Int) (ha : 0 ≤ a) (hn : a + 3 * l.length ≤ 4611686018427387904) : Ev (fun k => laws_markTable.f k s l a) (a + 3 * l.length, marksM a l.length) := by
  have h : Ev (fun k => laws_markMemberS.f k l a) (a + 3 * l.length, marksM a l.length) := by
    unfold laws_markMemberS.f
    have := markMS_loop l.length a ha hn l.length l 0 (by omega) (by omega) (by omega) rfl (by simp)
    simpa using this
  unfold laws_markTable.f
  refine Ev.bind h ?_
  exact Ev.now _
theorem heldMS_loop (n : Nat) (a : Int) (ha : 0 ≤ a) (hn : a + 3 * n ≤ 4611686018427387904) (d : Nat) : ∀ (i : Int), 0 ≤ i → i ≤ n → (n : Int) - i = d →
    Ev (fun k => laws_heldMemberS.l0 k (marksM a n) (a + 3 * i) i) (a + 3 * n) := by
  induction d with
  | zero =>
    intro i h0 h1 hd
    have hge : ¬ i < ((marksM a n).length : Int) := by rw [marksM_length]; omega
    refine evPos ?_
    simp only [laws_heldMemberS.l0, if_neg hge]
    exact evConst (by congr 1; omega)
  | succ d ih =>
    intro i h0 h1 hd
    refine evPos ?_
    have hlt : i < ((marksM a n).length : Int) := by rw [marksM_length]; omega
    have hw : wrap64 (i + 1) = i + 1 := by unfold wrap64; omega
    have w1 : wrap64 (a + 3 * i + 1) = a + 3 * i + 1 := by unfold wrap64; omega
    have w2 : wrap64 (a + 3 * i + 1 + 1) = a + 3 * i + 2 := by unfold wrap64; omega
    have w3 : wrap64 (a + 3 * i + 2 + 1) = a + 3 * (i + 1) := by unfold wrap64; omega
    have hr := marksM_rd a n h0 (by omega)
    simp only [laws_heldMemberS.l0, if_pos hlt, if_pos h0, hr, if_true, hw, w1, w2, w3]
    exact ih (i + 1) (by omega) (by omega) (by omega)
theorem heldTab_ev (s a : Int) (n : Nat) (ha : 0 ≤ a) (hn : a + 3 * n ≤ 4611686018427387904) : Ev (fun k => laws_heldTable.f k s (marksM a n) a) (a + 3 * n) := by
  have h : Ev (fun k => laws_heldMemberS.f k (marksM a n) a) (a + 3 * n) := by
    unfold laws_heldMemberS.f
    have := heldMS_loop n a ha hn n 0 (by omega) (by omega) (by omega)
    simpa using this
  unfold laws_heldTable.f
  refine Ev.bind h ?_
  have c1 : ¬ (a + 3 * (n : Int) < 0) := by omega
  simp only [if_neg c1]
  exact Ev.now _
/-! Where a member is: step by step, and by halves: one answer, of an ascending list. -/
abbrev MT := S82
def Rm (l : List MT) (i : Int) : MT := rd_T82 l i
/-- One step's test: a valid member, behind the one before it. -/
def chk (l : List MT) (i : Int) : Bool := memB (Rm l i).f0 (Rm l i).f1 (Rm l i).f2 && (decide (i = 0) || decide ((Rm l (i - 1)).f0 < (Rm l i).f0))
def Chk (l : List MT) : Prop := ∀ i : Int, 0 ≤ i → i < l.length → chk l i = true
theorem Chk.asc {l : List MT} (h : Chk l) : ∀ (d : Nat) (a b : Int), 0 ≤ a → a < b → b < l.length → b - a = d + 1 → (Rm l a).f0 < (Rm l b).f0 := by
  intro d
  induction d with
  | zero =>
    intro a b h0 h1 h2 hd
    have := h b (by omega) h2
    simp only [chk, Bool.and_eq_true, Bool.or_eq_true, decide_eq_true_eq] at this
    obtain rfl : a = b - 1 := by omega
    rcases this.2 with e | e
    · omega
    · exact e
  | succ d ih =>
    intro a b h0 h1 h2 hd
    have r := ih a (b - 1) h0 (by omega) (by omega) (by omega)
    have := h b (by omega) h2
    simp only [chk, Bool.and_eq_true, Bool.or_eq_true, decide_eq_true_eq] at this
    rcases this.2 with e | e
    · omega
    · omega
theorem Chk.lt {l : List MT} (h : Chk l) {a b : Int} (h0 : 0 ≤ a) (h1 : a < b) (h2 : b < l.length) : (Rm l a).f0 < (Rm l b).f0 := h.asc (b - a - 1).toNat a b h0 h1 h2 (by omega)
theorem Chk.uniq {l : List MT} (h : Chk l) {a b : Int} (h0 : 0 ≤ a) (h1 : a < l.length) (h2 : 0 ≤ b) (h3 : b < l.length) (e : (Rm l a).f0 = (Rm l b).f0) : a = b := by
  rcases Int.lt_trichotomy a b with c | c | c
  · have := h.lt h0 c h3; omega
  · exact c
  · have := h.lt h2 c h1; omega
/-- Where the number is: its place, or none. -/
def At (l : List MT) (id r : Int) : Prop := 0 ≤ r ∧ r < l.length ∧ (Rm l r).f0 = id
def Non (l : List MT) (id : Int) : Prop := ∀ j : Int, 0 ≤ j → j < l.length → (Rm l j).f0 ≠ id
theorem specFind_loop (l : List MT) (hl : l.length ≤ 1048576) (s id : Int) (d : Nat) : ∀ (i : Int), 0 ≤ i → i ≤ l.length → (l.length : Int) - i = d → (∀ j : Int, 0 ≤ j → j < i → (Rm l j).f0 ≠ id) →
    ∃ r, Ev (fun k => spec_l10find.l0 k id i s l) r ∧ (At l id r ∨ r = -1 ∧ Non l id) := by
  induction d with
  | zero =>
    intro i h0 h1 hd hn
    have hge : ¬ i < (l.length : Int) := by omega
    refine ⟨-1, evPos ?_, Or.inr ⟨rfl, fun j j0 j1 => hn j j0 (by omega)⟩⟩
    simp only [spec_l10find.l0, if_neg hge]
    exact Ev.now _
  | succ d ih =>
    intro i h0 h1 hd hn
    have hlt : i < (l.length : Int) := by omega
    by_cases c : (rd_T82 l i).f0 = id
    · refine ⟨i, evPos ?_, Or.inl ⟨h0, hlt, c⟩⟩
      simp only [spec_l10find.l0, if_pos hlt, if_pos h0, if_pos c]
      exact Ev.now _
    · obtain ⟨r, hr, hp⟩ := ih (i + 1) (by omega) (by omega) (by omega) (fun j j0 j1 => by
        by_cases e : j = i
        · subst e; exact c
        · exact hn j j0 (by omega))
      refine ⟨r, evPos ?_, hp⟩
      have hw : wrap64 (i + 1) = i + 1 := wrap_up h0 hlt (by omega)
      simp only [spec_l10find.l0, if_pos hlt, if_pos h0, if_neg c, hw]
      exact hr
theorem specFind_ev (l : List MT) (hl : l.length ≤ 1048576) (s id : Int) : ∃ r, Ev (fun k => spec_l10find.f k s l id) r ∧ (At l id r ∨ r = -1 ∧ Non l id) := by
  unfold spec_l10find.f
  exact specFind_loop l hl s id l.length 0 (by omega) (by omega) (by omega) (fun j j0 j1 => by omega)
theorem cmpI_neg (a b : Int) : impl_Table_member.cmpI a b < 0 ↔ a < b := by
  unfold impl_Table_member.cmpI
  by_cases h : a < b
  · simp [h]
  · by_cases h2 : a > b <;> simp [h, h2]
theorem cmpI_zero (a b : Int) : (impl_Table_member.cmpI a b == 0) = decide (a = b) := by
  unfold impl_Table_member.cmpI
  by_cases h : a < b
  · have : a ≠ b := by omega
    simp [h, this]
  · by_cases h2 : a > b
    · have : a ≠ b := by omega
      simp [h, h2, this]
    · have : a = b := by omega
      simp [this]
theorem srch_loop (l : List MT) (hl : l.length ≤ 1048576) (h : Chk l) (id : Int) (d : Nat) : ∀ (lo hi : Nat), lo ≤ hi → hi ≤ l.length → hi - lo ≤ d → (∀ j : Int, 0 ≤ j → j < lo → (Rm l j).f0 < id) → (∀ j : Int, hi ≤ j → j < l.length → id ≤ (Rm l j).f0) →
    ∃ r : Nat, r ≤ l.length ∧ (∀ j : Int, 0 ≤ j → j < r → (Rm l j).f0 < id) ∧ (∀ j : Int, r ≤ j → j < l.length → id ≤ (Rm l j).f0) ∧
      Ev (fun k => impl_Table_member.srchl0 k l id lo hi) ((r : Int), decide (r < l.length) && decide ((Rm l r).f0 = id)) := by
  induction d with
  | zero =>
    intro lo hi h0 h1 hd a b
    obtain rfl : hi = lo := by omega
    refine ⟨hi, h1, a, b, evPos ?_⟩
    have hge : ¬ hi < hi := by omega
    simp only [impl_Table_member.srchl0, if_neg hge, cmpI_zero]
    exact Ev.now _
  | succ d ih =>
    intro lo hi h0 h1 hd a b
    by_cases c : lo < hi
    · have em : ((lo : Int) + (hi : Int)) / 2 = (((lo + hi) / 2 : Nat) : Int) := by omega
      by_cases c2 : (Rm l (((lo : Int) + (hi : Int)) / 2)).f0 < id
      · obtain ⟨r, r1, ra, rb, hr⟩ := ih ((lo + hi) / 2 + 1) hi (by omega) h1 (by omega) (fun j j0 j1 => by
          by_cases e : j = ((lo : Int) + (hi : Int)) / 2
          · subst e; exact c2
          · have := h.lt j0 (show j < ((lo : Int) + (hi : Int)) / 2 by omega) (by omega); omega) b
        refine ⟨r, r1, ra, rb, evPos ?_⟩
        have c3 := (cmpI_neg (rd_T82 l (((lo : Int) + (hi : Int)) / 2)).f0 id).mpr c2
        simp only [impl_Table_member.srchl0, if_pos c, if_pos c3]
        exact hr
      · obtain ⟨r, r1, ra, rb, hr⟩ := ih lo ((lo + hi) / 2) (by omega) (by omega) (by omega) a (fun j j0 j1 => by
          by_cases e : j = ((lo : Int) + (hi : Int)) / 2
          · subst e; omega
          · have := h.lt (show 0 ≤ ((lo : Int) + (hi : Int)) / 2 by omega) (show ((lo : Int) + (hi : Int)) / 2 < j by omega) j1; omega)
        refine ⟨r, r1, ra, rb, evPos ?_⟩
        have c3 : ¬ impl_Table_member.cmpI (rd_T82 l (((lo : Int) + (hi : Int)) / 2)).f0 id < 0 := fun z => c2 ((cmpI_neg _ _).mp z)
        simp only [impl_Table_member.srchl0, if_pos c, if_neg c3]
        exact hr
    · obtain rfl : hi = lo := by omega
      refine ⟨hi, h1, a, b, evPos ?_⟩
      simp only [impl_Table_member.srchl0, if_neg c, cmpI_zero]
      exact Ev.now _
/-- By halves: the place, or where it would be. -/
theorem member_ev (l : List MT) (hl : l.length ≤ 1048576) (h : Chk l) (s id : Int) :
    ∃ r b, Ev (fun k => impl_Table_member.f k s l id) (r, b) ∧ 0 ≤ r ∧ r ≤ l.length ∧ (∀ j : Int, 0 ≤ j → j < r → (Rm l j).f0 < id) ∧ (∀ j : Int, r ≤ j → j < l.length → id ≤ (Rm l j).f0) ∧ (b = true ∧ At l id r ∨ b = false ∧ Non l id) := by
  unfold impl_Table_member.f impl_Table_member.srchf
  have h2 : l.length < 4611686018427387904 := by omega
  simp only [if_pos h2]
  obtain ⟨r, r1, ra, rb, hr⟩ := srch_loop l hl h id l.length 0 l.length (by omega) (by omega) (by omega) (fun j j0 j1 => by omega) (fun j j0 j1 => by omega)
  refine ⟨r, _, hr, by omega, by omega, ra, rb, ?_⟩
  by_cases c : r < l.length ∧ (Rm l r).f0 = id
  · left
    exact ⟨by simp [c.1, c.2], by omega, by omega, c.2⟩
  · right
    refine ⟨by
      by_cases c1 : r < l.length
      · have c2 : ¬ (Rm l r).f0 = id := fun z => c ⟨c1, z⟩
        simp [c2]
      · simp [c1], fun j j0 j1 e => ?_⟩
    have p1 := ra j j0
    have p2 := rb j
    by_cases z : j < r
    · have := p1 z; omega
    · have := rb r (by omega) (by omega)
      by_cases y : (r : Int) = j
      · subst y; exact c ⟨by omega, e⟩
      · have := h.lt (show (0 : Int) ≤ r by omega) (show (r : Int) < j by omega) j1; omega
/-! A table: what the program asks and what the reference asks is one. -/
def tailV (x : MT) : Bool := decide (x.f1 = 0) || decide (x.f1 = 3) || decide (x.f2 = 1000)
/-- A table is valid: as a proposition. -/
def TabP (s : Int) (l : List MT) : Prop := l.length ≤ 12 ∧ Chk l ∧ ∃ r, At l s r ∧ tailV (Rm l r) = true
theorem tail_if (x : MT) : (if x.f1 = 0 then (some true) else (if x.f1 = 3 then (some true) else (some (x.f2 == 1000)))) = some (tailV x) := by
  unfold tailV
  by_cases h1 : x.f1 = 0
  · simp [h1]
  · by_cases h2 : x.f1 = 3
    · simp [h2]
    · by_cases h3 : x.f2 = 1000 <;> simp [h1, h2, h3]
theorem specTab_loop (s : Int) (l : List MT) (hl : l.length ≤ 12) (d : Nat) : ∀ (i : Int), 0 ≤ i → i ≤ l.length → (l.length : Int) - i = d → (∀ j : Int, 0 ≤ j → j < i → chk l j = true) →
    ∃ b, Ev (fun k => spec_TableOk.l0 k i s l) b ∧ (b = true ↔ TabP s l) := by
  induction d with
  | zero =>
    intro i h0 h1 hd hc
    have hge : ¬ i < (l.length : Int) := by omega
    have hC : Chk l := fun j j0 j1 => hc j j0 (by omega)
    obtain ⟨r, hr, hp⟩ := specFind_ev l (by omega) s s
    rcases hp with hp | ⟨rfl, hp⟩
    · have g1 : r ≥ 0 := hp.1
      have g2 : 0 ≤ r := hp.1
      refine ⟨tailV (Rm l r), evPos ?_, fun h => ⟨hl, hC, r, hp, h⟩, fun ⟨_, _, r2, q, h⟩ => ?_⟩
      · simp only [spec_TableOk.l0, if_neg hge]
        refine Ev.bind hr ?_
        simp only [if_pos g1, if_pos g2, if_pos hp.2.1]
        exact evConst (tail_if (rd_T82 l r))
      · have := hC.uniq hp.1 hp.2.1 q.1 q.2.1 (hp.2.2.trans q.2.2.symm)
        rw [this]; exact h
    · refine ⟨false, evPos ?_, fun h => absurd h (by decide), fun ⟨_, _, r2, q, h⟩ => absurd q.2.2 (hp r2 q.1 q.2.1)⟩
      simp only [spec_TableOk.l0, if_neg hge]
      refine Ev.bind hr ?_
      have g1 : ¬ ((-1 : Int) ≥ 0) := by omega
      simp only [if_neg g1]
      exact Ev.now _
  | succ d ih =>
    intro i h0 h1 hd hc
    have hlt : i < (l.length : Int) := by omega
    have hw : wrap64 (i + 1) = i + 1 := wrap_up h0 hlt (by omega)
    have hw2 : wrap64 (i - 1) = i - 1 := by unfold wrap64; omega
    by_cases c : chk l i = true
    · obtain ⟨b, hb, hp⟩ := ih (i + 1) (by omega) (by omega) (by omega) (fun j j0 j1 => by
        by_cases e : j = i
        · subst e; exact c
        · exact hc j j0 (by omega))
      refine ⟨b, evPos ?_, hp⟩
      simp only [chk, Bool.and_eq_true, Bool.or_eq_true, decide_eq_true_eq] at c
      have c1 : memB (rd_T82 l i).f0 (rd_T82 l i).f1 (rd_T82 l i).f2 = true := c.1
      simp only [spec_TableOk.l0, if_pos hlt, if_pos h0, specMemberOk_eq, Option.bind_some, c1, if_true, hw, hw2]
      by_cases c2 : i > 0
      · have g1 : 0 ≤ i - 1 := by omega
        have g2 : i - 1 < (l.length : Int) := by omega
        have g3 : ¬ (rd_T82 l (i - 1)).f0 ≥ (rd_T82 l i).f0 := by
          rcases c.2 with e | e
          · omega
          · have e' : (rd_T82 l (i - 1)).f0 < (rd_T82 l i).f0 := e
            omega
        simp only [if_pos c2, if_pos g1, if_pos g2, if_neg g3]
        exact hb
      · simp only [if_neg c2]; exact hb
    · refine ⟨false, evPos ?_, fun h => absurd h (by decide), fun ⟨_, q, _⟩ => absurd (q i h0 hlt) c⟩
      simp only [spec_TableOk.l0, if_pos hlt, if_pos h0, specMemberOk_eq, Option.bind_some, hw, hw2]
      by_cases c1 : memB (rd_T82 l i).f0 (rd_T82 l i).f1 (rd_T82 l i).f2 = true
      · simp only [c1, if_true]
        have c2 : ¬ (i = 0) ∧ ¬ ((Rm l (i - 1)).f0 < (Rm l i).f0) := by
          simp only [chk, Bool.and_eq_true, Bool.or_eq_true, decide_eq_true_eq] at c
          have c1' : memB (Rm l i).f0 (Rm l i).f1 (Rm l i).f2 = true := c1
          exact ⟨fun e => c ⟨c1', Or.inl e⟩, fun e => c ⟨c1', Or.inr e⟩⟩
        have g0 : i > 0 := by omega
        have g1 : 0 ≤ i - 1 := by omega
        have g2 : i - 1 < (l.length : Int) := by omega
        have g3 : (rd_T82 l (i - 1)).f0 ≥ (rd_T82 l i).f0 := by
          have e' : ¬ ((rd_T82 l (i - 1)).f0 < (rd_T82 l i).f0) := c2.2
          omega
        simp only [if_pos g0, if_pos g1, if_pos g2, if_pos g3]
        exact Ev.now _
      · simp only [if_neg c1]
        exact Ev.now _
theorem implTab_loop (s : Int) (l : List MT) (hl : l.length ≤ 12) (d : Nat) : ∀ (i : Int), 0 ≤ i → i ≤ l.length → (l.length : Int) - i = d → (∀ j : Int, 0 ≤ j → j < i → chk l j = true) →
    ∃ b, Ev (fun k => impl_TableOk.l0 k l (l.length : Int) i s l) b ∧ (b = true ↔ TabP s l) := by
  induction d with
  | zero =>
    intro i h0 h1 hd hc
    have hge : ¬ i < (l.length : Int) := by omega
    have hC : Chk l := fun j j0 j1 => hc j j0 (by omega)
    obtain ⟨r, b, hr, _, _, _, _, hp⟩ := member_ev l (by omega) hC s s
    rcases hp with ⟨rfl, hp⟩ | ⟨rfl, hp⟩
    · have g2 : 0 ≤ r := hp.1
      refine ⟨tailV (Rm l r), evPos ?_, fun h => ⟨hl, hC, r, hp, h⟩, fun ⟨_, _, r2, q, h⟩ => ?_⟩
      · simp only [impl_TableOk.l0, if_neg hge]
        refine Ev.bind hr ?_
        simp only [if_true, if_pos g2, if_pos hp.2.1]
        exact evConst (tail_if (rd_T82 l r))
      · have := hC.uniq hp.1 hp.2.1 q.1 q.2.1 (hp.2.2.trans q.2.2.symm)
        rw [this]; exact h
    · refine ⟨false, evPos ?_, fun h => absurd h (by decide), fun ⟨_, _, r2, q, h⟩ => absurd q.2.2 (hp r2 q.1 q.2.1)⟩
      simp only [impl_TableOk.l0, if_neg hge]
      refine Ev.bind hr ?_
      simp only [Bool.false_eq_true, if_false]
      exact Ev.now _
  | succ d ih =>
    intro i h0 h1 hd hc
    have hlt : i < (l.length : Int) := by omega
    have hw : wrap64 (i + 1) = i + 1 := wrap_up h0 hlt (by omega)
    have hw2 : wrap64 (i - 1) = i - 1 := by unfold wrap64; omega
    by_cases c : chk l i = true
    · obtain ⟨b, hb, hp⟩ := ih (i + 1) (by omega) (by omega) (by omega) (fun j j0 j1 => by
        by_cases e : j = i
        · subst e; exact c
        · exact hc j j0 (by omega))
      refine ⟨b, evPos ?_, hp⟩
      simp only [chk, Bool.and_eq_true, Bool.or_eq_true, decide_eq_true_eq] at c
      have c1 : memB (rd_T82 l i).f0 (rd_T82 l i).f1 (rd_T82 l i).f2 = true := c.1
      simp only [impl_TableOk.l0, if_pos hlt, if_pos h0, implMemberOk_eq, Option.bind_some, c1, if_true, hw, hw2]
      by_cases c2 : i > 0
      · have g1 : 0 ≤ i - 1 := by omega
        have g2 : i - 1 < (l.length : Int) := by omega
        have g3 : ¬ (rd_T82 l (i - 1)).f0 ≥ (rd_T82 l i).f0 := by
          rcases c.2 with e | e
          · omega
          · have e' : (rd_T82 l (i - 1)).f0 < (rd_T82 l i).f0 := e
            omega
        simp only [if_pos c2, if_pos g1, if_pos g2, if_neg g3]
        exact hb
      · simp only [if_neg c2]; exact hb
    · refine ⟨false, evPos ?_, fun h => absurd h (by decide), fun ⟨_, q, _⟩ => absurd (q i h0 hlt) c⟩
      simp only [impl_TableOk.l0, if_pos hlt, if_pos h0, implMemberOk_eq, Option.bind_some, hw, hw2]
      by_cases c1 : memB (rd_T82 l i).f0 (rd_T82 l i).f1 (rd_T82 l i).f2 = true
      · simp only [c1, if_true]
        have c2 : ¬ (i = 0) ∧ ¬ ((Rm l (i - 1)).f0 < (Rm l i).f0) := by
          simp only [chk, Bool.and_eq_true, Bool.or_eq_true, decide_eq_true_eq] at c
          have c1' : memB (Rm l i).f0 (Rm l i).f1 (Rm l i).f2 = true := c1
          exact ⟨fun e => c ⟨c1', Or.inl e⟩, fun e => c ⟨c1', Or.inr e⟩⟩
        have g0 : i > 0 := by omega
        have g1 : 0 ≤ i - 1 := by omega
        have g2 : i - 1 < (l.length : Int) := by omega
        have g3 : (rd_T82 l (i - 1)).f0 ≥ (rd_T82 l i).f0 := by
          have e' : ¬ ((rd_T82 l (i - 1)).f0 < (rd_T82 l i).f0) := c2.2
          omega
        simp only [if_pos g0, if_pos g1, if_pos g2, if_pos g3]
        exact Ev.now _
      · simp only [if_neg c1]
        exact Ev.now _
/-- Both say one thing: whether the table is valid. -/
theorem tableOk_ev (s : Int) (l : List MT) (hl : l.length ≤ 1048576) : ∃ b, Ev (fun k => spec_TableOk.f k s l) b ∧ Ev (fun k => impl_TableOk.f k s l) b ∧ (b = true ↔ TabP s l) := by
  unfold spec_TableOk.f impl_TableOk.f
  by_cases c : (l.length : Int) > 12
  · refine ⟨false, by simp only [if_pos c]; exact Ev.now _, by simp only [if_pos c]; exact Ev.now _, fun h => absurd h (by decide), fun h => ?_⟩
    have := h.1; omega
  · obtain ⟨b1, e1, p1⟩ := specTab_loop s l (by omega) l.length 0 (by omega) (by omega) (by omega) (fun j j0 j1 => by omega)
    obtain ⟨b2, e2, p2⟩ := implTab_loop s l (by omega) l.length 0 (by omega) (by omega) (by omega) (fun j j0 j1 => by omega)
    have : b1 = b2 := by
      cases b1 <;> cases b2 <;> simp_all
    subst this
    exact ⟨b1, by simp only [if_neg c]; exact e1, by simp only [if_neg c]; exact e2, p1⟩
theorem implOwnT_eq (s : Int) (l : List MT) (h : l.length ≤ 1048576) : impl_Table_own.f s l = some (s, l) := by
  unfold impl_Table_own.f impl_Member.f
  rw [if_pos (by omega), Option.bind_some]
theorem specOwnT_eq (s : Int) (l : List MT) (h : l.length ≤ 1048576) : spec_l10own.f s l = some (s, l) := by
  unfold spec_l10own.f
  simp only [Option.bind_some, List.nil_append, List.length_nil, Nat.zero_add]
  exact if_pos (by omega)
theorem leave_ev (s : Int) (l : List MT) (hl : l.length ≤ 1048576) : ∃ R : Int × List MT × Bool, R.2.1.length ≤ 12 ∧ Ev (fun k => spec_Leave.f k s l) R ∧ Ev (fun k => impl_Leave.f k s l) R := by
  obtain ⟨b, e1, e2, hb⟩ := tableOk_ev s l hl
  unfold spec_Leave.f impl_Leave.f
  cases b with
  | false =>
    refine ⟨(0, [], false), by simp, Ev.bind e1 ?_, Ev.bind e2 ?_⟩
    · simp only [Bool.false_eq_true, if_false]; exact Ev.now _
    · simp only [Bool.false_eq_true, if_false]; exact Ev.now _
  | true =>
    have h12 := (hb.mp rfl).1
    have hC := (hb.mp rfl).2.1
    obtain ⟨q, hq, _⟩ := (hb.mp rfl).2.2
    obtain ⟨r, hr, hp⟩ := specFind_ev l hl s s
    obtain ⟨r2, b2, hr2, _, _, _, _, hp2⟩ := member_ev l hl hC s s
    have p1 : At l s r := by
      rcases hp with hp | ⟨_, hp⟩
      · exact hp
      · exact absurd hq.2.2 (hp q hq.1 hq.2.1)
    have p2 : At l s r2 := by
      rcases hp2 with ⟨_, hp2⟩ | ⟨_, hp2⟩
      · exact hp2
      · exact absurd hq.2.2 (hp2 q hq.1 hq.2.1)
    have e := hC.uniq p1.1 p1.2.1 p2.1 p2.2.1 (p1.2.2.trans p2.2.2.symm)
    subst e
    by_cases c : (rd_T82 l r).f1 = 3
    · refine ⟨(s, l, false), h12, Ev.bind e1 ?_, Ev.bind e2 ?_⟩
      · rw [specOwnT_eq s l hl]
        simp only [if_true, Option.bind_some]
        refine Ev.bind hr ?_
        simp only [if_pos p1.1, if_pos p1.2.1, if_pos c]
        exact Ev.now _
      · rw [implOwnT_eq s l hl]
        simp only [if_true, Option.bind_some]
        refine Ev.bind hr2 ?_
        simp only [if_pos p1.1, if_pos p1.2.1, if_pos c]
        exact Ev.now _
    · refine ⟨(s, (l.set (r : Int).toNat (⟨(rd_T82 l r).f0, 3, (rd_T82 l r).f2⟩ : S82)), true), by simpa using h12, Ev.bind e1 ?_, Ev.bind e2 ?_⟩
      · rw [specOwnT_eq s l hl]
        simp only [if_true, Option.bind_some]
        refine Ev.bind hr ?_
        simp only [if_pos p1.1, if_pos p1.2.1, if_neg c]
        exact Ev.now _
      · rw [implOwnT_eq s l hl]
        simp only [if_true, Option.bind_some]
        refine Ev.bind hr2 ?_
        simp only [if_pos p1.1, if_pos p1.2.1, if_neg c]
        exact Ev.now _
theorem FnExactLeave : AFnExactLeave.Stmt := by
  intro s l _ hl _
  suffices h : Ev (fun k => laws_FnExactLeave.f k s l) true from h.rounds
  unfold laws_FnExactLeave.f
  rw [szTable_eq s l hl]
  simp only [Option.bind_some]
  by_cases h : (l.length : Int) ≤ 1048576
  · have h2 : ¬ ((1048576 : Int) - l.length < 0) := by omega
    simp only [if_pos h, if_neg h2]
    have t := toTable_ev s l (by omega)
    obtain ⟨⟨R0, R1, R2⟩, hR, hs, hi⟩ := leave_ev s (l.map cvM) (by simp; omega)
    simp only at hR
    have e' := eqTable_ev R0 R1 (by omega)
    refine Ev.bind t ?_
    refine Ev.bind hs ?_
    refine Ev.bind t ?_
    refine Ev.bind hi ?_
    refine Ev.bind e' ?_
    simp only [if_true, bne_self_eq_false]
    refine evPos ?_
    simp only [laws_FnExactLeave.j0, Bool.false_eq_true, if_false]
    refine Ev.bind t ?_
    refine Ev.bind (eqTable_ev s (l.map cvM) (by simp; omega)) ?_
    simp only [if_true]
    refine Ev.bind (markTab_ev s (l.map cvM) 1 (by omega) (by simp; omega)) ?_
    have c1 : ¬ ((1 : Int) + 3 * ((l.map cvM).length : Int) < 0) := by omega
    simp only [if_neg c1]
    refine Ev.bind e' ?_
    simp only [if_true, bne_self_eq_false]
    refine evPos ?_
    simp only [laws_FnExactLeave.j1, Bool.false_eq_true, if_false]
    refine Ev.bind (markTab_ev R0 R1 1 (by omega) (by omega)) ?_
    refine Ev.bind (heldTab_ev R0 1 R1.length (by omega) (by omega)) ?_
    have c2 : ¬ ((1 : Int) + 3 * (R1.length : Int) < 0) := by omega
    simp only [if_neg c2, if_true]
    refine Ev.bind t ?_
    refine Ev.bind hi ?_
    refine Ev.bind e' ?_
    simp only [if_true, bne_self_eq_false]
    refine evPos ?_
    simp only [laws_FnExactLeave.j2, Bool.false_eq_true, if_false]
    refine Ev.bind (heldTab_ev R0 1 R1.length (by omega) (by omega)) ?_
    simp only [if_neg c2, if_true]
    exact Ev.now _
  · simp only [if_neg h]
    exact Ev.now _

end Go.Proofs.Ytigoajblljolcaa.Pure
