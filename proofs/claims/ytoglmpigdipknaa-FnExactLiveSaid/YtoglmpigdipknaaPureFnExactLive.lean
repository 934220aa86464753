/- The program's Live gives what the reference's Live gives, for every argument; its result shares no memory with the argument or another result. No condition. -/
import Derived.Test.YtoglmpigdipknaaArgsFnExactLive
namespace Go.Proofs.Ytoglmpigdipknaa.Pure
open Go.RowKit Go.Proofs.Ytoglmpigdipknaa.AFnExactLive Go.Proofs.Ytoglmpigdipknaa.XFnExactLive Go.Proofs.YtoglmpigdipknaaW.PrintWords Go.Proofs.YtoglmpigdipknaaW.PrintLast
set_option linter.unusedSimpArgs false
set_option linter.unusedVariables false
theorem wrap_up {i : Int} {n : Nat} (h0 : 0 ≤ i) (h : i < (n : Int)) (hn : n ≤ 9223372036854775807) : wrap64 (i + 1) = i + 1 := by
  unfold wrap64; omega
theorem evPos {α : Type} {g : Nat → Option α} {r : α} (h : Ev (fun k => g (k + 1)) r) : Ev g r := by
  obtain ⟨K, hK⟩ := h
  refine ⟨K + 1, fun k hk => ?_⟩
  obtain ⟨m, rfl⟩ : ∃ m, k = m + 1 := ⟨k - 1, by omega⟩
  exact hK m (by omega)
theorem evConst {α : Type} {a : Option α} {r : α} (h : a = some r) : Ev (fun _ => a) r := ⟨0, fun _ _ => h⟩
theorem evShift {α : Type} {g : Nat → Option α} {r : α} (h : Ev g r) : Ev (fun k => g (k + 1)) r := by
  obtain ⟨K, hK⟩ := h
  exact ⟨K, fun k hk => hK (k + 1) (by omega)⟩
theorem evVal {α : Type} {g : Nat → Option α} {r r' : α} (h : Ev g r) (e : r = r') : Ev g r' := e ▸ h
theorem rd_lt {l : List Int} {i : Int} (h0 : 0 ≤ i) (h : i < (l.length : Int)) : rd l i = l[i.toNat]'(by omega) := by
  unfold rd; rw [List.getD_eq_getElem?_getD, List.getElem?_eq_getElem (by omega)]; rfl
theorem eqIntS_loop (l : List Int) (hl : l.length ≤ 35184372088832) (d : Nat) : ∀ (i : Int), 0 ≤ i → i ≤ l.length → (l.length : Int) - i = d → Ev (fun k => laws_eqIntS.l0 k l l i) true := by
  induction d with
  | zero =>
    intro i h0 h1 hd
    have hge : ¬ i < (l.length : Int) := by omega
    refine evPos ?_
    simp only [laws_eqIntS.l0, if_neg hge]
    exact Ev.now _
  | succ d ih =>
    intro i h0 h1 hd
    refine evPos ?_
    simp only [laws_eqIntS.l0]
    have hlt : i < (l.length : Int) := by omega
    have hw : wrap64 (i + 1) = i + 1 := wrap_up h0 hlt (by omega)
    simp only [if_pos hlt, if_pos h0, if_true, hw]
    exact ih (i + 1) (by omega) (by omega) (by omega)
theorem eqIntS_ev (l : List Int) (hl : l.length ≤ 35184372088832) : Ev (fun k => laws_eqIntS.f k l l) true := by
  unfold laws_eqIntS.f
  simp only [if_true]
  exact eqIntS_loop l hl l.length 0 (by omega) (by omega) (by omega)
/-! markIntS, heldIntS: what was marked is found so. -/
def marks (a : Int) (n : Nat) : List Int := (List.range n).map fun (i : Nat) => a + (i : Int)
theorem marks_length (a : Int) (n : Nat) : (marks a n).length = n := by simp [marks]
theorem marks_rd (a : Int) (n : Nat) {i : Int} (h0 : 0 ≤ i) (h : i < (n : Int)) : rd (marks a n) i = a + i := by
  rw [rd_lt h0 (by rw [marks_length]; exact h)]
  simp only [marks, List.getElem_map, List.getElem_range]
  omega
theorem markIntS_loop (n : Nat) (a : Int) (ha : 0 ≤ a) (hn : a + n ≤ 9223372036854775807) (d : Nat) : ∀ (x : List Int) (i : Int), 0 ≤ i → i ≤ n → (n : Int) - i = d → x.length = n → x.take i.toNat = (marks a n).take i.toNat →
    Ev (fun k => laws_markIntS.l0 k x (a + i) i) (a + n, marks a n) := by
  induction d with
  | zero =>
    intro x i h0 h1 hd hx ht
    have hge : ¬ i < (x.length : Int) := by omega
    refine evPos ?_
    simp only [laws_markIntS.l0, if_neg hge]
    refine evConst ?_
    have e : i.toNat = n := by omega
    have ei : i = n := by omega
    rw [e] at ht
    rw [List.take_of_length_le (by omega), List.take_of_length_le (by rw [marks_length]; omega)] at ht
    rw [ht, ei]
  | succ d ih =>
    intro x i h0 h1 hd hx ht
    refine evPos ?_
    have hlt : i < (x.length : Int) := by omega
    have hw : wrap64 (i + 1) = i + 1 := by unfold wrap64; omega
    have hw2 : wrap64 (a + i + 1) = a + (i + 1) := by unfold wrap64; omega
    simp only [laws_markIntS.l0, if_pos hlt, if_pos h0, hw, hw2]
    refine ih _ (i + 1) (by omega) (by omega) (by omega) (by simp [hx]) ?_
    have e : (i + 1).toNat = i.toNat + 1 := by omega
    have hi : i.toNat < (marks a n).length := by rw [marks_length]; omega
    have hi' : i.toNat < x.length := by omega
    rw [e, List.take_succ_eq_append_getElem hi, List.take_succ_eq_append_getElem (by simpa using hi'), List.take_set_of_le (Nat.le_refl _), ht, List.getElem_set_self, ← rd_lt h0 (by rw [marks_length]; omega), marks_rd a n h0 (by omega)]
theorem markIntS_ev (l : List Int) (a : Int) (ha : 0 ≤ a) (hn : a + l.length ≤ 9223372036854775807) : Ev (fun k => laws_markIntS.f k l a) (a + l.length, marks a l.length) := by
  unfold laws_markIntS.f
  have := markIntS_loop l.length a ha hn l.length l 0 (by omega) (by omega) (by omega) rfl (by simp)
  simpa using this
theorem heldIntS_loop (n : Nat) (a : Int) (ha : 0 ≤ a) (hn : a + n ≤ 9223372036854775807) (d : Nat) : ∀ (i : Int), 0 ≤ i → i ≤ n → (n : Int) - i = d →
    Ev (fun k => laws_heldIntS.l0 k (marks a n) (a + i) i) (a + n) := by
  induction d with
  | zero =>
    intro i h0 h1 hd
    have hge : ¬ i < ((marks a n).length : Int) := by rw [marks_length]; omega
    refine evPos ?_
    simp only [laws_heldIntS.l0, if_neg hge]
    exact evConst (by congr 1; omega)
  | succ d ih =>
    intro i h0 h1 hd
    refine evPos ?_
    have hlt : i < ((marks a n).length : Int) := by rw [marks_length]; omega
    have hw : wrap64 (i + 1) = i + 1 := by unfold wrap64; omega
    have hw2 : wrap64 (a + i + 1) = a + (i + 1) := by unfold wrap64; omega
    have hr := marks_rd a n h0 (by omega)
    simp only [laws_heldIntS.l0, if_pos hlt, if_pos h0, hr, if_true, hw, hw2]
    exact ih (i + 1) (by omega) (by omega) (by omega)
theorem heldIntS_ev (a : Int) (n : Nat) (ha : 0 ≤ a) (hn : a + n ≤ 9223372036854775807) : Ev (fun k => laws_heldIntS.f k (marks a n) a) (a + n) := by
  unfold laws_heldIntS.f
  have := heldIntS_loop n a ha hn n 0 (by omega) (by omega) (by omega)
  simpa using this
theorem within_eq (a b c : Int) : impl_within.f a b c = some (decide (b ≤ a) && decide (a ≤ c)) := by
  unfold impl_within.f
  by_cases h : b ≤ a <;> simp [h]
def memB (a b c : Int) : Bool := decide (0 ≤ a) && decide (a ≤ 11) && (decide (0 ≤ b) && decide (b ≤ 3)) && (decide (0 ≤ c) && decide (c ≤ 1000))
theorem specMemberOk_eq (a b c : Int) : spec_MemberOk.f a b c = some (memB a b c) := by
  unfold spec_MemberOk.f memB
  by_cases h1 : 0 ≤ a <;> by_cases h2 : a ≤ 11 <;> by_cases h3 : 0 ≤ b <;> by_cases h4 : b ≤ 3 <;> by_cases h5 : 0 ≤ c <;> simp [h1, h2, h3, h4, h5] <;> omega
theorem implMemberOk_eq (a b c : Int) : impl_MemberOk.f a b c = some (memB a b c) := by
  unfold impl_MemberOk.f memB
  simp only [within_eq, Option.bind_some]
  by_cases h1 : 0 ≤ a <;> by_cases h2 : a ≤ 11 <;> by_cases h3 : 0 ≤ b <;> by_cases h4 : b ≤ 3 <;> simp [h1, h2, h3, h4]
/-! Tables of members: their size, copied, compared. -/
def cvM (x : S134) : S67 := ⟨x.f0, x.f1, x.f2⟩
theorem rdML_lt {l : List S134} {i : Int} (h0 : 0 ≤ i) (h : i < (l.length : Int)) : rd_T134 l i = l[i.toNat]'(by omega) := by
  unfold rd_T134; rw [List.getD_eq_getElem?_getD, List.getElem?_eq_getElem (by omega)]; rfl
theorem szTable_at (a x : Int) (l : List S134) (hl : l.length ≤ 9223372036854775807) (hx : -1 ≤ x) (hx' : x ≤ 1048576) : laws_szTable.f a l x = some (if (l.length : Int) ≤ x then x - (l.length : Int) else -1) := by
  unfold laws_szTable.f laws_szMemberS.f
  have w : wrap64 (x - (l.length : Int)) = x - l.length := by unfold wrap64; omega
  rw [w]
  by_cases h : (l.length : Int) ≤ x
  · rw [if_neg (by omega), if_pos h, Option.bind_some, if_neg (by omega)]
  · rw [if_pos (by omega), if_neg h, Option.bind_some, if_pos (by omega)]
theorem szTable_eq (a : Int) (l : List S134) (hl : l.length ≤ 9223372036854775807) : laws_szTable.f a l 1048576 = some (if (l.length : Int) ≤ 1048576 then 1048576 - (l.length : Int) else -1) := szTable_at a 1048576 l hl (by omega) (by omega)
theorem toMemberS_loop (l : List S134) (hl : l.length ≤ 1048576) (d : Nat) : ∀ (x : List S67) (i : Int), 0 ≤ i → i ≤ l.length → (l.length : Int) - i = d → x.length = l.length → x.take i.toNat = (l.map cvM).take i.toNat →
    Ev (fun k => laws_toMemberS.l0 k l x i) (l.map cvM) := by
  induction d with
  | zero =>
    intro x i h0 h1 hd hx ht
    have hge : ¬ i < (l.length : Int) := by omega
    refine evPos ?_
    simp only [laws_toMemberS.l0, if_neg hge]
    refine evConst ?_
    rw [List.take_of_length_le (by omega), List.take_of_length_le (by simp; omega)] at ht
    rw [ht]
  | succ d ih =>
    intro x i h0 h1 hd hx ht
    have hlt : i < (l.length : Int) := by omega
    have hlt' : i < (x.length : Int) := by omega
    refine evPos ?_
    have hw : wrap64 (i + 1) = i + 1 := wrap_up h0 hlt (by omega)
    simp only [laws_toMemberS.l0, if_pos hlt, if_pos h0, rdML_lt h0 hlt, if_pos hlt', laws_toMember.f, Option.bind_some, hw]
    refine ih _ (i + 1) (by omega) (by omega) (by omega) (by simp [hx]) ?_
    have e : (i + 1).toNat = i.toNat + 1 := by omega
    rw [e, List.take_succ_eq_append_getElem (by simp; omega), List.take_succ_eq_append_getElem (by simp; omega)]
    rw [List.take_set_of_le (Nat.le_refl _), ht, List.getElem_set_self, List.getElem_map]
    rfl
theorem toTable_ev (a : Int) (l : List S134) (hl : l.length ≤ 1048576) : Ev (fun k => laws_toTable.f k a l) (a, l.map cvM) := by
  unfold laws_toTable.f
  have h : Ev (fun k => laws_toMemberS.f k l) (l.map cvM) := by
    unfold laws_toMemberS.f
    have h1 : 0 ≤ (l.length : Int) := by omega
    have h2 : ((l.length : Int)).toNat ≤ 11728124029610 := by omega
    simp only [if_pos h1, if_pos h2]
    exact toMemberS_loop l hl l.length _ 0 (by omega) (by omega) (by omega) (by simp) (by simp)
  exact Ev.bind h (Ev.now _)
theorem eqMemberS_loop (l : List S67) (hl : l.length ≤ 1048576) (d : Nat) : ∀ (i : Int), 0 ≤ i → i ≤ l.length → (l.length : Int) - i = d → Ev (fun k => laws_eqMemberS.l0 k l l i) true := by
  induction d with
  | zero =>
    intro i h0 h1 hd
    have hge : ¬ i < (l.length : Int) := by omega
    refine evPos ?_
    simp only [laws_eqMemberS.l0, if_neg hge]
    exact Ev.now _
  | succ d ih =>
    intro i h0 h1 hd
    have hlt : i < (l.length : Int) := by omega
    refine evPos ?_
    have hw : wrap64 (i + 1) = i + 1 := wrap_up h0 hlt (by omega)
    simp only [laws_eqMemberS.l0, if_pos hlt, if_pos h0, hw, laws_eqMember.f, if_true, Option.bind_some]
    exact ih (i + 1) (by omega) (by omega) (by omega)
theorem eqTable_ev (a : Int) (l : List S67) (hl : l.length ≤ 1048576) : Ev (fun k => laws_eqTable.f k a l a l) true := by
  unfold laws_eqTable.f
  simp only [if_true]
  have h : Ev (fun k => laws_eqMemberS.f k l l) true := by
    unfold laws_eqMemberS.f
    simp only [if_true]
    exact eqMemberS_loop l hl l.length 0 (by omega) (by omega) (by omega)
  refine Ev.bind h ?_
  simp only [if_true]
  exact Ev.now _
/-! Where a member is: step by step, and by halves: one answer, of an ascending list. -/
abbrev MT := S67
def Rm (l : List MT) (i : Int) : MT := rd_T67 l i
/-- One step's test: a valid member, behind the one before it. -/
def chk (l : List MT) (i : Int) : Bool := memB (Rm l i).f0 (Rm l i).f1 (Rm l i).f2 && (decide (i = 0) || decide ((Rm l (i - 1)).f0 < (Rm l i).f0))
def Chk (l : List MT) : Prop := ∀ i : Int, 0 ≤ i → i < l.length → chk l i = true
theorem Chk.asc {l : List MT} (h : Chk l) : ∀ (d : Nat) (a b : Int), 0 ≤ a → a < b → b < l.length → b - a = d + 1 → (Rm l a).f0 < (Rm l b).f0 := by
  intro d
  induction d with
  | zero =>
    intro a b h0 h1 h2 hd
    have := h b (by omega) h2
    simp only [chk, Bool.and_eq_true, Bool.or_eq_true, decide_eq_true_eq] at this
    obtain rfl : a = b - 1 := by omega
    rcases this.2 with e | e
    · omega
    · exact e
  | succ d ih =>
    intro a b h0 h1 h2 hd
    have r := ih a (b - 1) h0 (by omega) (by omega) (by omega)
    have := h b (by omega) h2
    simp only [chk, Bool.and_eq_true, Bool.or_eq_true, decide_eq_true_eq] at this
    rcases this.2 with e | e
    · omega
    · omega
theorem Chk.lt {l : List MT} (h : Chk l) {a b : Int} (h0 : 0 ≤ a) (h1 : a < b) (h2 : b < l.length) : (Rm l a).f0 < (Rm l b).f0 := h.asc (b - a - 1).toNat a b h0 h1 h2 (by omega)
theorem Chk.uniq {l : List MT} (h : Chk l) {a b : Int} (h0 : 0 ≤ a) (h1 : a < l.length) (h2 : 0 ≤ b) (h3 : b < l.length) (e : (Rm l a).f0 = (Rm l b).f0) : a = b := by
  rcases Int.lt_trichotomy a b with c | c | c
  · have := h.lt h0 c h3; omega
  · exact c
  · have := h.lt h2 c h1; omega
/-- Where the number is: its place, or none. -/
def At (l : List MT) (id r : Int) : Prop := 0 ≤ r ∧ r < l.length ∧ (Rm l r).f0 = id
def Non (l : List MT) (id : Int) : Prop := ∀ j : Int, 0 ≤ j → j < l.length → (Rm l j).f0 ≠ id
theorem specFind_loop (l : List MT) (hl : l.length ≤ 1048576) (s id : Int) (d : Nat) : ∀ (i : Int), 0 ≤ i → i ≤ l.length → (l.length : Int) - i = d → (∀ j : Int, 0 ≤ j → j < i → (Rm l j).f0 ≠ id) →
    ∃ r, Ev (fun k => spec_l10find.l0 k id i s l) r ∧ (At l id r ∨ r = -1 ∧ Non l id) := by
  induction d with
  | zero =>
    intro i h0 h1 hd hn
    have hge : ¬ i < (l.length : Int) := by omega
    refine ⟨-1, evPos ?_, Or.inr ⟨rfl, fun j j0 j1 => hn j j0 (by omega)⟩⟩
    simp only [spec_l10find.l0, if_neg hge]
    exact Ev.now _
  | succ d ih =>
    intro i h0 h1 hd hn
    have hlt : i < (l.length : Int) := by omega
    by_cases c : (rd_T67 l i).f0 = id
    · refine ⟨i, evPos ?_, Or.inl ⟨h0, hlt, c⟩⟩
      simp only [spec_l10find.l0, if_pos hlt, if_pos h0, if_pos c]
      exact Ev.now _
    · obtain ⟨r, hr, hp⟩ := ih (i + 1) (by omega) (by omega) (by omega) (fun j j0 j1 => by
        by_cases e : j = i
        · subst e; exact c
        · exact hn j j0 (by omega))
      refine ⟨r, evPos ?_, hp⟩
      have hw : wrap64 (i + 1) = i + 1 := wrap_up h0 hlt (by omega)
      simp only [spec_l10find.l0, if_pos hlt, if_pos h0, if_neg c, hw]
      exact hr
theorem specFind_ev (l : List MT) (hl : l.length ≤ 1048576) (s id : Int) : ∃ r, Ev (fun k => spec_l10find.f k s l id) r ∧ (At l id r ∨ r = -1 ∧ Non l id) := by
  unfold spec_l10find.f
  exact specFind_loop l hl s id l.length 0 (by omega) (by omega) (by omega) (fun j j0 j1 => by omega)
theorem cmpI_neg (a b : Int) : impl_Table_member.cmpI a b < 0 ↔ a < b := by
  unfold impl_Table_member.cmpI
  by_cases h : a < b
  · simp [h]
  · by_cases h2 : a > b <;> simp [h, h2]
theorem cmpI_zero (a b : Int) : (impl_Table_member.cmpI a b == 0) = decide (a = b) := by
  unfold impl_Table_member.cmpI
  by_cases h : a < b
  · have : a ≠ b := by omega
    simp [h, this]
  · by_cases h2 : a > b
    · have : a ≠ b := by omega
      simp [h, h2, this]
    · have : a = b := by omega
      simp [this]
theorem srch_loop (l : List MT) (hl : l.length ≤ 1048576) (h : Chk l) (id : Int) (d : Nat) : ∀ (lo hi : Nat), lo ≤ hi → hi ≤ l.length → hi - lo ≤ d → (∀ j : Int, 0 ≤ j → j < lo → (Rm l j).f0 < id) → (∀ j : Int, hi ≤ j → j < l.length → id ≤ (Rm l j).f0) →
    ∃ r : Nat, r ≤ l.length ∧ (∀ j : Int, 0 ≤ j → j < r → (Rm l j).f0 < id) ∧ (∀ j : Int, r ≤ j → j < l.length → id ≤ (Rm l j).f0) ∧
      Ev (fun k => impl_Table_member.srchl0 k l id lo hi) ((r : Int), decide (r < l.length) && decide ((Rm l r).f0 = id)) := by
  induction d with
  | zero =>
    intro lo hi h0 h1 hd a b
    obtain rfl : hi = lo := by omega
    refine ⟨hi, h1, a, b, evPos ?_⟩
    have hge : ¬ hi < hi := by omega
    simp only [impl_Table_member.srchl0, if_neg hge, cmpI_zero]
    exact Ev.now _
  | succ d ih =>
    intro lo hi h0 h1 hd a b
    by_cases c : lo < hi
    · have em : ((lo : Int) + (hi : Int)) / 2 = (((lo + hi) / 2 : Nat) : Int) := by omega
      by_cases c2 : (Rm l (((lo : Int) + (hi : Int)) / 2)).f0 < id
      · obtain ⟨r, r1, ra, rb, hr⟩ := ih ((lo + hi) / 2 + 1) hi (by omega) h1 (by omega) (fun j j0 j1 => by
          by_cases e : j = ((lo : Int) + (hi : Int)) / 2
          · subst e; exact c2
          · have := h.lt j0 (show j < ((lo : Int) + (hi : Int)) / 2 by omega) (by omega); omega) b
        refine ⟨r, r1, ra, rb, evPos ?_⟩
        have c3 := (cmpI_neg (rd_T67 l (((lo : Int) + (hi : Int)) / 2)).f0 id).mpr c2
        simp only [impl_Table_member.srchl0, if_pos c, if_pos c3]
        exact hr
      · obtain ⟨r, r1, ra, rb, hr⟩ := ih lo ((lo + hi) / 2) (by omega) (by omega) (by omega) a (fun j j0 j1 => by
          by_cases e : j = ((lo : Int) + (hi : Int)) / 2
          · subst e; omega
          · have := h.lt (show 0 ≤ ((lo : Int) + (hi : Int)) / 2 by omega) (show ((lo : Int) + (hi : Int)) / 2 < j by omega) j1; omega)
        refine ⟨r, r1, ra, rb, evPos ?_⟩
        have c3 : ¬ impl_Table_member.cmpI (rd_T67 l (((lo : Int) + (hi : Int)) / 2)).f0 id < 0 := fun z => c2 ((cmpI_neg _ _).mp z)
        simp only [impl_Table_member.srchl0, if_pos c, if_neg c3]
        exact hr
    · obtain rfl : hi = lo := by omega
      refine ⟨hi, h1, a, b, evPos ?_⟩
      simp only [impl_Table_member.srchl0, if_neg c, cmpI_zero]
      exact Ev.now _
/-- By halves: the place, or where it would be. -/
theorem member_ev (l : List MT) (hl : l.length ≤ 1048576) (h : Chk l) (s id : Int) :
    ∃ r b, Ev (fun k => impl_Table_member.f k s l id) (r, b) ∧ 0 ≤ r ∧ r ≤ l.length ∧ (∀ j : Int, 0 ≤ j → j < r → (Rm l j).f0 < id) ∧ (∀ j : Int, r ≤ j → j < l.length → id ≤ (Rm l j).f0) ∧ (b = true ∧ At l id r ∨ b = false ∧ Non l id) := by
  unfold impl_Table_member.f impl_Table_member.srchf
  have h2 : l.length < 4611686018427387904 := by omega
  simp only [if_pos h2]
  obtain ⟨r, r1, ra, rb, hr⟩ := srch_loop l hl h id l.length 0 l.length (by omega) (by omega) (by omega) (fun j j0 j1 => by omega) (fun j j0 j1 => by omega)
  refine ⟨r, _, hr, by omega, by omega, ra, rb, ?_⟩
  by_cases c : r < l.length ∧ (Rm l r).f0 = id
  · left
    exact ⟨by simp [c.1, c.2], by omega, by omega, c.2⟩
  · right
    refine ⟨by
      by_cases c1 : r < l.length
      · have c2 : ¬ (Rm l r).f0 = id := fun z => c ⟨c1, z⟩
        simp [c2]
      · simp [c1], fun j j0 j1 e => ?_⟩
    have p1 := ra j j0
    have p2 := rb j
    by_cases z : j < r
    · have := p1 z; omega
    · have := rb r (by omega) (by omega)
      by_cases y : (r : Int) = j
      · subst y; exact c ⟨by omega, e⟩
      · have := h.lt (show (0 : Int) ≤ r by omega) (show (r : Int) < j by omega) j1; omega
/-! A table: what the program asks and what the reference asks is one. -/
def tailV (x : MT) : Bool := decide (x.f1 = 0) || decide (x.f1 = 3) || decide (x.f2 = 1000)
/-- A table is valid: as a proposition. -/
def TabP (s : Int) (l : List MT) : Prop := l.length ≤ 12 ∧ Chk l ∧ ∃ r, At l s r ∧ tailV (Rm l r) = true
theorem tail_if (x : MT) : (if x.f1 = 0 then (some true) else (if x.f1 = 3 then (some true) else (some (x.f2 == 1000)))) = some (tailV x) := by
  unfold tailV
  by_cases h1 : x.f1 = 0
  · simp [h1]
  · by_cases h2 : x.f1 = 3
    · simp [h2]
    · by_cases h3 : x.f2 = 1000 <;> simp [h1, h2, h3]
theorem specTab_loop (s : Int) (l : List MT) (hl : l.length ≤ 12) (d : Nat) : ∀ (i : Int), 0 ≤ i → i ≤ l.length → (l.length : Int) - i = d → (∀ j : Int, 0 ≤ j → j < i → chk l j = true) →
    ∃ b, Ev (fun k => spec_TableOk.l0 k i s l) b ∧ (b = true ↔ TabP s l) := by
  induction d with
  | zero =>
    intro i h0 h1 hd hc
    have hge : ¬ i < (l.length : Int) := by omega
    have hC : Chk l := fun j j0 j1 => hc j j0 (by omega)
    obtain ⟨r, hr, hp⟩ := specFind_ev l (by omega) s s
    rcases hp with hp | ⟨rfl, hp⟩
    · have g1 : r ≥ 0 := hp.1
      have g2 : 0 ≤ r := hp.1
      refine ⟨tailV (Rm l r), evPos ?_, fun h => ⟨hl, hC, r, hp, h⟩, fun ⟨_, _, r2, q, h⟩ => ?_⟩
      · simp only [spec_TableOk.l0, if_neg hge]
        refine Ev.bind hr ?_
        simp only [if_pos g1, if_pos g2, if_pos hp.2.1]
        exact evConst (tail_if (rd_T67 l r))
      · have := hC.uniq hp.1 hp.2.1 q.1 q.2.1 (hp.2.2.trans q.2.2.symm)
        rw [this]; exact h
    · refine ⟨false, evPos ?_, fun h => absurd h (by decide), fun ⟨_, _, r2, q, h⟩ => absurd q.2.2 (hp r2 q.1 q.2.1)⟩
      simp only [spec_TableOk.l0, if_neg hge]
      refine Ev.bind hr ?_
      have g1 : ¬ ((-1 : Int) ≥ 0) := by omega
      simp only [if_neg g1]
      exact Ev.now _
  | succ d ih =>
    intro i h0 h1 hd hc
    have hlt : i < (l.length : Int) := by omega
    have hw : wrap64 (i + 1) = i + 1 := wrap_up h0 hlt (by omega)
    have hw2 : wrap64 (i - 1) = i - 1 := by unfold wrap64; omega
    by_cases c : chk l i = true
    · obtain ⟨b, hb, hp⟩ := ih (i + 1) (by omega) (by omega) (by omega) (fun j j0 j1 => by
        by_cases e : j = i
        · subst e; exact c
        · exact hc j j0 (by omega))
      refine ⟨b, evPos ?_, hp⟩
      simp only [chk, Bool.and_eq_true, Bool.or_eq_true, decide_eq_true_eq] at c
      have c1 : memB (rd_T67 l i).f0 (rd_T67 l i).f1 (rd_T67 l i).f2 = true := c.1
      simp only [spec_TableOk.l0, if_pos hlt, if_pos h0, specMemberOk_eq, Option.bind_some, c1, if_true, hw, hw2]
      by_cases c2 : i > 0
      · have g1 : 0 ≤ i - 1 := by omega
        have g2 : i - 1 < (l.length : Int) := by omega
        have g3 : ¬ (rd_T67 l (i - 1)).f0 ≥ (rd_T67 l i).f0 := by
          rcases c.2 with e | e
          · omega
          · have e' : (rd_T67 l (i - 1)).f0 < (rd_T67 l i).f0 := e
            omega
        simp only [if_pos c2, if_pos g1, if_pos g2, if_neg g3]
        exact hb
      · simp only [if_neg c2]; exact hb
    · refine ⟨false, evPos ?_, fun h => absurd h (by decide), fun ⟨_, q, _⟩ => absurd (q i h0 hlt) c⟩
      simp only [spec_TableOk.l0, if_pos hlt, if_pos h0, specMemberOk_eq, Option.bind_some, hw, hw2]
      by_cases c1 : memB (rd_T67 l i).f0 (rd_T67 l i).f1 (rd_T67 l i).f2 = true
      · simp only [c1, if_true]
        have c2 : ¬ (i = 0) ∧ ¬ ((Rm l (i - 1)).f0 < (Rm l i).f0) := by
          simp only [chk, Bool.and_eq_true, Bool.or_eq_true, decide_eq_true_eq] at c
          have c1' : memB (Rm l i).f0 (Rm l i).f1 (Rm l i).f2 = true := c1
          exact ⟨fun e => c ⟨c1', Or.inl e⟩, fun e => c ⟨c1', Or.inr e⟩⟩
        have g0 : i > 0 := by omega
        have g1 : 0 ≤ i - 1 := by omega
        have g2 : i - 1 < (l.length : Int) := by omega
        have g3 : (rd_T67 l (i - 1)).f0 ≥ (rd_T67 l i).f0 := by
          have e' : ¬ ((rd_T67 l (i - 1)).f0 < (rd_T67 l i).f0) := c2.2
          omega
        simp only [if_pos g0, if_pos g1, if_pos g2, if_pos g3]
        exact Ev.now _
      · simp only [if_neg c1]
        exact Ev.now _
theorem implTab_loop (s : Int) (l : List MT) (hl : l.length ≤ 12) (d : Nat) : ∀ (i : Int), 0 ≤ i → i ≤ l.length → (l.length : Int) - i = d → (∀ j : Int, 0 ≤ j → j < i → chk l j = true) →
    ∃ b, Ev (fun k => impl_TableOk.l0 k l (l.length : Int) i s l) b ∧ (b = true ↔ TabP s l) := by
  induction d with
  | zero =>
    intro i h0 h1 hd hc
    have hge : ¬ i < (l.length : Int) := by omega
    have hC : Chk l := fun j j0 j1 => hc j j0 (by omega)
    obtain ⟨r, b, hr, _, _, _, _, hp⟩ := member_ev l (by omega) hC s s
    rcases hp with ⟨rfl, hp⟩ | ⟨rfl, hp⟩
    · have g2 : 0 ≤ r := hp.1
      refine ⟨tailV (Rm l r), evPos ?_, fun h => ⟨hl, hC, r, hp, h⟩, fun ⟨_, _, r2, q, h⟩ => ?_⟩
      · simp only [impl_TableOk.l0, if_neg hge]
        refine Ev.bind hr ?_
        simp only [if_true, if_pos g2, if_pos hp.2.1]
        exact evConst (tail_if (rd_T67 l r))
      · have := hC.uniq hp.1 hp.2.1 q.1 q.2.1 (hp.2.2.trans q.2.2.symm)
        rw [this]; exact h
    · refine ⟨false, evPos ?_, fun h => absurd h (by decide), fun ⟨_, _, r2, q, h⟩ => absurd q.2.2 (hp r2 q.1 q.2.1)⟩
      simp only [impl_TableOk.l0, if_neg hge]
      refine Ev.bind hr ?_
      simp only [Bool.false_eq_true, if_false]
      exact Ev.now _
  | succ d ih =>
    intro i h0 h1 hd hc
    have hlt : i < (l.length : Int) := by omega
    have hw : wrap64 (i + 1) = i + 1 := wrap_up h0 hlt (by omega)
    have hw2 : wrap64 (i - 1) = i - 1 := by unfold wrap64; omega
    by_cases c : chk l i = true
    · obtain ⟨b, hb, hp⟩ := ih (i + 1) (by omega) (by omega) (by omega) (fun j j0 j1 => by
        by_cases e : j = i
        · subst e; exact c
        · exact hc j j0 (by omega))
      refine ⟨b, evPos ?_, hp⟩
      simp only [chk, Bool.and_eq_true, Bool.or_eq_true, decide_eq_true_eq] at c
      have c1 : memB (rd_T67 l i).f0 (rd_T67 l i).f1 (rd_T67 l i).f2 = true := c.1
      simp only [impl_TableOk.l0, if_pos hlt, if_pos h0, implMemberOk_eq, Option.bind_some, c1, if_true, hw, hw2]
      by_cases c2 : i > 0
      · have g1 : 0 ≤ i - 1 := by omega
        have g2 : i - 1 < (l.length : Int) := by omega
        have g3 : ¬ (rd_T67 l (i - 1)).f0 ≥ (rd_T67 l i).f0 := by
          rcases c.2 with e | e
          · omega
          · have e' : (rd_T67 l (i - 1)).f0 < (rd_T67 l i).f0 := e
            omega
        simp only [if_pos c2, if_pos g1, if_pos g2, if_neg g3]
        exact hb
      · simp only [if_neg c2]; exact hb
    · refine ⟨false, evPos ?_, fun h => absurd h (by decide), fun ⟨_, q, _⟩ => absurd (q i h0 hlt) c⟩
      simp only [impl_TableOk.l0, if_pos hlt, if_pos h0, implMemberOk_eq, Option.bind_some, hw, hw2]
      by_cases c1 : memB (rd_T67 l i).f0 (rd_T67 l i).f1 (rd_T67 l i).f2 = true
      · simp only [c1, if_true]
        have c2 : ¬ (i = 0) ∧ ¬ ((Rm l (i - 1)).f0 < (Rm l i).f0) := by
          simp only [chk, Bool.and_eq_true, Bool.or_eq_true, decide_eq_true_eq] at c
          have c1' : memB (Rm l i).f0 (Rm l i).f1 (Rm l i).f2 = true := c1
          exact ⟨fun e => c ⟨c1', Or.inl e⟩, fun e => c ⟨c1', Or.inr e⟩⟩
        have g0 : i > 0 := by omega
        have g1 : 0 ≤ i - 1 := by omega
        have g2 : i - 1 < (l.length : Int) := by omega
        have g3 : (rd_T67 l (i - 1)).f0 ≥ (rd_T67 l i).f0 := by
          have e' : ¬ ((rd_T67 l (i - 1)).f0 < (rd_T67 l i).f0) := c2.2
          omega
        simp only [if_pos g0, if_pos g1, if_pos g2, if_pos g3]
        exact Ev.now _
      · simp only [if_neg c1]
        exact Ev.now _
/-- Both say one thing: whether the table is valid. -/
theorem tableOk_ev (s : Int) (l : List MT) (hl : l.length ≤ 1048576) : ∃ b, Ev (fun k => spec_TableOk.f k s l) b ∧ Ev (fun k => impl_TableOk.f k s l) b ∧ (b = true ↔ TabP s l) := by
  unfold spec_TableOk.f impl_TableOk.f
  by_cases c : (l.length : Int) > 12
  · refine ⟨false, by simp only [if_pos c]; exact Ev.now _, by simp only [if_pos c]; exact Ev.now _, fun h => absurd h (by decide), fun h => ?_⟩
    have := h.1; omega
  · obtain ⟨b1, e1, p1⟩ := specTab_loop s l (by omega) l.length 0 (by omega) (by omega) (by omega) (fun j j0 j1 => by omega)
    obtain ⟨b2, e2, p2⟩ := implTab_loop s l (by omega) l.length 0 (by omega) (by omega) (by omega) (fun j j0 j1 => by omega)
    have : b1 = b2 := by
      cases b1 <;> cases b2 <;> simp_all
    subst this
    exact ⟨b1, by simp only [if_neg c]; exact e1, by simp only [if_neg c]; exact e2, p1⟩
/-! A table marked: the marks count up. -/
theorem markMemberS_loop (d : Nat) : ∀ (x : List S67) (a i : Int), 0 ≤ i → i ≤ x.length → (x.length : Int) - i = d → x.length ≤ 1048576 → 0 ≤ a → a + 3 * d ≤ 4611686018427387904 →
    ∃ m y, Ev (fun k => laws_markMemberS.l0 k x a i) (m, y) ∧ 0 ≤ m := by
  induction d with
  | zero =>
    intro x a i h0 h1 hd hx ha hb
    have hge : ¬ i < (x.length : Int) := by omega
    refine ⟨a, x, evPos ?_, ha⟩
    simp only [laws_markMemberS.l0, if_neg hge]
    exact Ev.now _
  | succ d ih =>
    intro x a i h0 h1 hd hx ha hb
    have hlt : i < (x.length : Int) := by omega
    have hw : wrap64 (i + 1) = i + 1 := wrap_up h0 hlt (by omega)
    have w1 : wrap64 (a + 1) = a + 1 := by unfold wrap64; omega
    have w2 : wrap64 (a + 1 + 1) = a + 2 := by unfold wrap64; omega
    have w3 : wrap64 (a + 2 + 1) = a + 3 := by unfold wrap64; omega
    have key : ∀ y : List S67, y.length = x.length → ∃ m z, Ev (fun k => laws_markMemberS.l0 k y (a + 3) (i + 1)) (m, z) ∧ 0 ≤ m := fun y hy => ih y (a + 3) (i + 1) (by omega) (by omega) (by omega) (by omega) (by omega) (by omega)
    obtain ⟨m, z, e, hm⟩ := key _ (show (((x.set i.toNat (⟨a, (rd_T67 x i).f1, (rd_T67 x i).f2⟩ : S67)).set i.toNat (⟨(rd_T67 (x.set i.toNat (⟨a, (rd_T67 x i).f1, (rd_T67 x i).f2⟩ : S67)) i).f0, a + 1, (rd_T67 (x.set i.toNat (⟨a, (rd_T67 x i).f1, (rd_T67 x i).f2⟩ : S67)) i).f2⟩ : S67)).set i.toNat (⟨(rd_T67 ((x.set i.toNat (⟨a, (rd_T67 x i).f1, (rd_T67 x i).f2⟩ : S67)).set i.toNat (⟨(rd_T67 (x.set i.toNat (⟨a, (rd_T67 x i).f1, (rd_T67 x i).f2⟩ : S67)) i).f0, a + 1, (rd_T67 (x.set i.toNat (⟨a, (rd_T67 x i).f1, (rd_T67 x i).f2⟩ : S67)) i).f2⟩ : S67)) i).f0, (rd_T67 ((x.set i.toNat (⟨a, (rd_T67 x i).f1, (rd_T67 x i).f2⟩ : S67)).set i.toNat (⟨(rd_T67 (x.set i.toNat (⟨a, (rd_T67 x i).f1, (rd_T67 x i).f2⟩ : S67)) i).f0, a + 1, (rd_T67 (x.set i.toNat (⟨a, (rd_T67 x i).f1, (rd_T67 x i).f2⟩ : S67)) i).f2⟩ : S67)) i).f1, a + 2⟩ : S67)).length = x.length by simp)
    refine ⟨m, z, evPos ?_, hm⟩
    simp only [laws_markMemberS.l0, if_pos hlt, if_pos h0, Option.bind_some, w1, w2, w3, hw]
    exact e
theorem markTable_ev (s : Int) (l : List S67) (hl : l.length ≤ 1048576) : ∃ m y, Ev (fun k => laws_markTable.f k s l 1) (m, y) ∧ 0 ≤ m := by
  obtain ⟨m, y, e, hm⟩ := markMemberS_loop l.length l 1 0 (by omega) (by omega) (by omega) hl (by omega) (by omega)
  refine ⟨m, y, ?_, hm⟩
  unfold laws_markTable.f laws_markMemberS.f
  refine Ev.bind e ?_
  exact Ev.now _
theorem live_loop (s : Int) (l : List MT) (hl : l.length ≤ 12) (hC : Chk l) (d : Nat) : ∀ (x : List Int) (i : Int), 0 ≤ i → i ≤ l.length → (l.length : Int) - i = d → x.length ≤ i.toNat →
    ∃ r, Ev (fun k => spec_Live.l0 k x i s l) r ∧ Ev (fun k => impl_Table_live.l0 k x l (l.length : Int) i) r ∧ r.length ≤ 12 := by
  induction d with
  | zero =>
    intro x i h0 h1 hd hx
    have hge : ¬ i < (l.length : Int) := by omega
    refine ⟨x, evPos ?_, evPos ?_, by omega⟩
    · simp only [spec_Live.l0, if_neg hge]; exact Ev.now _
    · simp only [impl_Table_live.l0, if_neg hge]; exact Ev.now _
  | succ d ih =>
    intro x i h0 h1 hd hx
    have hlt : i < (l.length : Int) := by omega
    have hw : wrap64 (i + 1) = i + 1 := wrap_up h0 hlt (by omega)
    have hm := hC i h0 hlt
    simp only [chk, memB, Bool.and_eq_true, decide_eq_true_eq] at hm
    have p0 : 0 ≤ (rd_T67 l i).f1 := hm.1.1.2.1
    have g : x.length < 17592186044416 := by omega
    by_cases c : (rd_T67 l i).f1 ≤ 1
    · obtain ⟨r, e1, e2, hr⟩ := ih (x ++ [(rd_T67 l i).f0]) (i + 1) (by omega) (by omega) (by omega) (by simp; omega)
      refine ⟨r, evPos ?_, evPos ?_, hr⟩
      · simp only [spec_Live.l0, if_pos hlt, if_pos h0, if_pos c, if_pos g, hw]; exact e1
      · by_cases c0 : (rd_T67 l i).f1 = 0
        · simp only [impl_Table_live.l0, if_pos hlt, if_pos h0, if_pos c0, if_pos g, hw]; exact e2
        · have c1 : (rd_T67 l i).f1 = 1 := by omega
          simp only [impl_Table_live.l0, if_pos hlt, if_pos h0, if_neg c0, if_pos c1, if_pos g, hw]; exact e2
    · obtain ⟨r, e1, e2, hr⟩ := ih x (i + 1) (by omega) (by omega) (by omega) (by omega)
      refine ⟨r, evPos ?_, evPos ?_, hr⟩
      · simp only [spec_Live.l0, if_pos hlt, if_pos h0, if_neg c, hw]; exact e1
      · have c0 : ¬ (rd_T67 l i).f1 = 0 := by omega
        have c1 : ¬ (rd_T67 l i).f1 = 1 := by omega
        simp only [impl_Table_live.l0, if_pos hlt, if_pos h0, if_neg c0, if_neg c1, hw]; exact e2
theorem live_ev (s : Int) (l : List MT) (hl : l.length ≤ 1048576) : ∃ r, Ev (fun k => spec_Live.f k s l) r ∧ Ev (fun k => impl_Live.f k s l) r ∧ r.length ≤ 12 := by
  obtain ⟨b, e1, e2, hb⟩ := tableOk_ev s l hl
  unfold spec_Live.f impl_Live.f
  cases b with
  | false =>
    refine ⟨[], ?_, ?_, by simp⟩
    · refine Ev.bind e1 ?_
      simp only [Bool.false_eq_true, if_false]
      exact Ev.now _
    · refine Ev.bind e2 ?_
      simp only [Bool.false_eq_true, if_false]
      exact Ev.now _
  | true =>
    obtain ⟨h12, hC, _⟩ := hb.mp rfl
    obtain ⟨r, f1, f2, hr⟩ := live_loop s l h12 hC l.length [] 0 (by omega) (by omega) (by omega) (by simp)
    refine ⟨r, ?_, ?_, hr⟩
    · refine Ev.bind e1 ?_
      simp only [if_true]
      exact f1
    · refine Ev.bind e2 ?_
      simp only [if_true, impl_Table_live.f]
      refine Ev.bind f2 ?_
      exact Ev.now _
theorem FnExactLive : AFnExactLive.Stmt := by
  intro s l _ hl _
  suffices h : Ev (fun k => laws_FnExactLive.f k s l) true from h.rounds
  unfold laws_FnExactLive.f
  rw [szTable_eq s l hl]
  simp only [Option.bind_some]
  by_cases h : (l.length : Int) ≤ 1048576
  · have h2 : ¬ ((1048576 : Int) - l.length < 0) := by omega
    simp only [if_pos h, if_neg h2]
    have t := toTable_ev s l (by omega)
    obtain ⟨R, e1, e2, hR⟩ := live_ev s (l.map cvM) (by simp; omega)
    obtain ⟨m, y, em, hm⟩ := markTable_ev s (l.map cvM) (by simp; omega)
    have e : Ev (fun k => laws_eqIntS.f k R R) true := eqIntS_ev R (by omega)
    refine Ev.bind t ?_
    refine Ev.bind e1 ?_
    refine Ev.bind t ?_
    refine Ev.bind e2 ?_
    refine Ev.bind e ?_
    simp only [if_true]
    refine Ev.bind t ?_
    refine Ev.bind (eqTable_ev s (l.map cvM) (by simp; omega)) ?_
    simp only [if_true]
    refine Ev.bind em ?_
    have c1 : ¬ (m < 0) := by omega
    simp only [if_neg c1]
    refine Ev.bind e ?_
    simp only [Bool.not_true]
    refine evPos ?_
    simp only [laws_FnExactLive.j0, Bool.false_eq_true, if_false]
    refine Ev.bind (markIntS_ev R 1 (by omega) (by omega)) ?_
    refine Ev.bind (heldIntS_ev 1 R.length (by omega) (by omega)) ?_
    have c2 : ¬ ((1 : Int) + R.length < 0) := by omega
    simp only [if_neg c2, if_true]
    refine Ev.bind t ?_
    refine Ev.bind e2 ?_
    refine Ev.bind e ?_
    simp only [if_true]
    refine Ev.bind (heldIntS_ev 1 R.length (by omega) (by omega)) ?_
    simp only [if_neg c2, if_true]
    exact Ev.now _
  · simp only [if_neg h]
    exact Ev.now _

end Go.Proofs.Ytoglmpigdipknaa.Pure
