/- A good state as bytes, by the program and by the reference, is one. Lemmas alone, no statement. -/
import Derived.Test.YtecleaangfcloabVpNwFnExactStateRead
namespace Go.Proofs.Ytecleaangfcloab.VtFnExactStateRead
set_option linter.unusedVariables false
set_option linter.unusedSimpArgs false
open Go Go.Vm
def NumG (n : Int) : Prop := 0 ≤ n ∧ n ≤ maxN
def RowG (r : D RowT) : Prop := List.length r.1 ≤ 20 ∧ List.length r.2.1 ≤ 20 ∧ NumG r.2.2.1 ∧ NumG r.2.2.2.1
def TombG (t : D TombT) : Prop := List.length t.1 ≤ 20 ∧ NumG t.2.1
def SessG (x : D SessT) : Prop := NumG x.1
def LastG (x : D LastT) : Prop := NumG x.1 ∧ NumG x.2.1 ∧ NumG x.2.2.1 ∧ NumG x.2.2.2.1
structure Gd (i0 lost : Int) (rows : List (D RowT)) (tombs : List (D TombT)) (ss : List (D SessT)) (lasts : List (D LastT)) : Prop where
  i : NumG i0
  l : NumG lost
  r : rows.length ≤ 20
  t : tombs.length ≤ 10
  s : ss.length ≤ 8
  c : lasts.length ≤ 4
  rg : ∀ y ∈ rows, RowG y
  tg : ∀ y ∈ tombs, TombG y
  sg : ∀ y ∈ ss, SessG y
  cg : ∀ y ∈ lasts, LastG y
theorem ix_some {α : Type} {p : α → Bool} : ∀ {l : List α} {i : Int}, 0 ≤ ixFrom p l i → ∃ y ∈ l, p y = true
  | [], i, h => by simp [ixFrom] at h
  | x :: l, i, h => by
    unfold ixFrom at h
    split at h
    · rename_i hp
      exact ⟨x, by simp, hp⟩
    · obtain ⟨y, hy, hp⟩ := ix_some h
      exact ⟨y, by simp [hy], hp⟩
theorem keyOk_le {l : List Int} (h : keyOk l = true) : l.length ≤ 20 := by
  unfold keyOk at h
  simp only [Bool.and_eq_true, decide_eq_true_eq] at h
  omega
theorem mk1 {n i : Int} (a : 1 ≤ n) (b : n ≤ i) (c : i ≤ 1000000) : NumG n := ⟨by omega, by unfold maxN; omega⟩
theorem mk0 {n i : Int} (a : 0 ≤ n) (b : n ≤ i) (c : i ≤ 1000000) : NumG n := ⟨a, by unfold maxN; omega⟩
theorem mk4 {n : Int} (a : 0 ≤ n) (b : n < 4) : NumG n := ⟨a, by unfold maxN; omega⟩
theorem gd_of {i0 lost : Int} {rows : List (D RowT)} {tombs : List (D TombT)} {ss : List (D SessT)} {lasts : List (D LastT)} (h : stateOk i0 lost rows tombs ss lasts = true) : Gd i0 lost rows tombs ss lasts := by
  unfold stateOk at h
  simp only [Bool.and_eq_true, decide_eq_true_eq] at h
  obtain ⟨h1, h2, h3, h4, h5, h6, h7, h8, h9, h10, h11, h12⟩ := h
  have hs : ∀ y ∈ ss, 1 ≤ y.1 ∧ y.1 ≤ i0 := by
    intro y hy
    obtain ⟨j, hj, rfl⟩ := List.mem_iff_getElem.1 hy
    have := up_get h11 (Nat.zero_le j) (by omega)
    rw [sess_at hj] at this
    simp only [Bool.and_eq_true, decide_eq_true_eq] at this
    exact ⟨this.1, this.2.1⟩
  refine ⟨mk0 h1 h2 (Int.le_refl _), mk0 h5 h6 h2, by omega, by omega, by omega, by omega, ?_, ?_, ?_, ?_⟩
  · intro y hy
    obtain ⟨j, hj, rfl⟩ := List.mem_iff_getElem.1 hy
    have := up_get h9 (Nat.zero_le j) (by omega)
    rw [row_at hj] at this
    simp only [Bool.and_eq_true, Bool.or_eq_true, decide_eq_true_eq] at this
    obtain ⟨a1, a2, a3, a4, a5, a6⟩ := this
    refine ⟨keyOk_le a1, by omega, mk1 a3 a4 h2, ?_⟩
    rcases a5 with a5 | a5
    · rw [a5]
      exact ⟨by decide, by decide⟩
    · obtain ⟨z, hz, e⟩ := ix_some a5
      have e := of_decide_eq_true e
      have := hs z hz
      rw [e] at this
      exact mk1 this.1 this.2 h2
  · intro y hy
    obtain ⟨j, hj, rfl⟩ := List.mem_iff_getElem.1 hy
    have := up_get h10 (Nat.zero_le j) (by omega)
    rw [tomb_at hj] at this
    simp only [Bool.and_eq_true, decide_eq_true_eq] at this
    obtain ⟨a1, a2, a3, a4, a5, a6⟩ := this
    exact ⟨keyOk_le a1, mk1 a4 a5 h2⟩
  · intro y hy
    have := hs y hy
    exact mk1 this.1 this.2 h2
  · intro y hy
    obtain ⟨j, hj, rfl⟩ := List.mem_iff_getElem.1 hy
    have := up_get h12 (Nat.zero_le j) (by omega)
    rw [last_at hj] at this
    simp only [Bool.and_eq_true, decide_eq_true_eq] at this
    obtain ⟨a1, a2, a3, a4, a5, a6, a7, a8, a9⟩ := this
    exact ⟨mk4 a1 a2, mk1 a3 a4 (Int.le_refl _), mk0 a5 a6 (by decide), mk1 a7 a8 h2⟩
def encRow (r : D RowT) : List Int := put (List.length r.1) ++ (r.1 ++ (put (List.length r.2.1) ++ (r.2.1 ++ (put r.2.2.1 ++ put r.2.2.2.1))))
def encTomb (t : D TombT) : List Int := put (List.length t.1) ++ (t.1 ++ put t.2.1)
def encSess (x : D SessT) : List Int := put x.1 ++ put (bit x.2.1)
def encLast (x : D LastT) : List Int := put x.1 ++ (put x.2.1 ++ (put x.2.2.1 ++ put x.2.2.2.1))
def encL (lasts : List (D LastT)) : List Int := put lasts.length ++ (lasts.flatMap encLast ++ [])
def encS (ss : List (D SessT)) (lasts : List (D LastT)) : List Int := put ss.length ++ (ss.flatMap encSess ++ encL lasts)
def encT (tombs : List (D TombT)) (ss : List (D SessT)) (lasts : List (D LastT)) : List Int := put tombs.length ++ (tombs.flatMap encTomb ++ encS ss lasts)
def encR (rows : List (D RowT)) (tombs : List (D TombT)) (ss : List (D SessT)) (lasts : List (D LastT)) : List Int := put rows.length ++ (rows.flatMap encRow ++ encT tombs ss lasts)
def enc (i0 lost : Int) (rows : List (D RowT)) (tombs : List (D TombT)) (ss : List (D SessT)) (lasts : List (D LastT)) : List Int := put i0 ++ (put lost ++ encR rows tombs ss lasts)
theorem drop_step {α : Type} {l : List α} {i : Int} (h0 : 0 ≤ i) (h : i < l.length) : ∃ r, l[i.toNat]? = some r ∧ r ∈ l ∧ l.drop i.toNat = r :: l.drop (i + 1).toNat := by
  have hlt : i.toNat < l.length := by omega
  exact ⟨l[i.toNat], List.getElem?_eq_getElem hlt, List.getElem_mem hlt, by rw [show (i + 1).toNat = i.toNat + 1 by omega]; exact List.drop_eq_getElem_cons hlt⟩
theorem drop_end {α : Type} {l : List α} {i : Int} (h : ¬ i < l.length) : l.drop i.toNat = [] := List.drop_of_length_le (by omega)
theorem answer {l m : List Int} {o : Option (List Dy)} (h : o = some [Bs l]) (e : l = m) : o = some [Bs m] := by rw [h, e]
set_option maxHeartbeats 8000000 in
theorem bytesI (N k : Nat) {i0 lost : Int} {rows : List (D RowT)} {tombs : List (D TombT)} {ss : List (D SessT)} {lasts : List (D LastT)} (hg : Gd i0 lost rows tombs ss lasts) (hN : big ≤ N) :
    Lv N (k + 3) 53 [⟨StateT, (i0, rows, tombs, lost, ss, lasts, ())⟩] = some [Bs (enc i0 lost rows tombs ss lasts)] := by
  have hbig : big = 1048577 := rfl
  obtain ⟨gi, gl, gr, gt, gs, gc, grg, gtg, gsg, gcg⟩ := hg
  have nl : ∀ n : Nat, n ≤ 20 → NumG n := fun n hn => ⟨by omega, by unfold maxN; omega⟩
  refine level_den rfl rfl ?_ rfl
  unfold ir53
  have hp := puts_len [i0, lost, rows.length]
  refine den_let rfl (den_let rfl (den_let (d := S (.int .i64) [i0, lost, rows.length]) rfl (den_call rfl (putL N k [] [i0, lost, rows.length] (by intro x hx; simp at hx; rcases hx with rfl | rfl | rfl; exact gi; exact gl; exact nl _ gr) (by simp; omega) hN) rfl ?_)))
  simp only [List.cons_append, List.nil_append]
  refine den_let rfl (den_loop (den_jump rfl rfl ?_))
  simp only [List.length_cons, List.length_nil] at hp
  refine answer (rounds_ind (α := Int × List Int) (enc := fun s => [I s.1, Bs [], I i0, S RowT rows, S TombT tombs, I lost, S SessT ss, S LastT lasts, Bs s.2]) (ans := fun s => some [Bs (s.2 ++ ((rows.drop s.1.toNat).flatMap encRow ++ encT tombs ss lasts))]) (meas := fun s => rows.length - s.1.toNat)
    (Q := fun s => 0 ≤ s.1 ∧ s.1 ≤ rows.length ∧ s.2.length ≤ 15 + 60 * s.1.toNat) ?_ N (0, puts [i0, lost, rows.length]) ⟨by show (0 : Int) ≤ 0; omega, by show (0 : Int) ≤ rows.length; omega, by dsimp only; omega⟩ (by show rows.length - (0 : Int).toNat < N; omega)) (by simp [enc, encR, puts])
  rintro J ⟨i, b⟩ ⟨hi0, hi1, hb⟩ hJ
  dsimp only at hi0 hi1 hb
  dsimp only
  simp only [List.cons_append, List.nil_append]
  refine den_let rfl (den_ite (b := decide (i < rows.length)) rfl (fun c => ?_) (fun c => ?_))
  · have c : i < rows.length := of_decide_eq_true c
    obtain ⟨r, hr, hm, hd⟩ := drop_step hi0 c
    obtain ⟨key, val, tu, ho, u⟩ := r
    obtain ⟨g1, g2, g3, g4⟩ := grg _ hm
    dsimp only at g1 g2 g3 g4
    have p1 := put_len (key.length : Int)
    have p2 := put_len (val.length : Int)
    have p3 := puts_len [tu, ho]
    simp only [List.length_cons, List.length_nil] at p3
    simp only [List.cons_append, List.nil_append]
    refine den_idx rfl rfl rfl hi0 hr (den_let rfl (den_let rfl (den_let rfl ?_)))
    simp only [List.cons_append, List.nil_append]
    refine den_call rfl (putTI N k b key g1 (by omega) hN) rfl (den_call rfl (putTI N k (b ++ (put (key.length : Int) ++ key)) val g2 (by simp only [List.length_append]; omega) hN) rfl ?_)
    simp only [List.cons_append, List.nil_append]
    refine den_let rfl (den_let (d := S (.int .i64) [tu, ho]) rfl (den_call rfl (putL N k _ [tu, ho] (by intro x hx; simp at hx; rcases hx with rfl | rfl; exact g3; exact g4) (by simp only [List.length_append, List.length_cons, List.length_nil]; omega) hN) rfl ?_))
    simp only [List.cons_append, List.nil_append]
    refine den_let (ev_add (x := i) (y := 1) rfl rfl (by omega) (by omega)) (den_jump rfl rfl ?_)
    rw [hd]
    refine answer (hJ (i + 1, _) ⟨by show 0 ≤ i + 1; omega, by show i + 1 ≤ (rows.length : Int); omega, ?_⟩ (by show rows.length - (i + 1).toNat < rows.length - i.toNat; omega)) ?_
    · dsimp only
      simp only [List.length_append]
      omega
    · simp [encRow, puts, List.flatMap_cons]
  have c : ¬ i < rows.length := of_decide_eq_false c
  rw [drop_end c]
  simp only [List.flatMap_nil, List.nil_append, List.cons_append]
  have p0 := puts_len [(tombs.length : Int)]
  simp only [List.length_cons, List.length_nil] at p0
  refine den_let rfl (den_let (d := S (.int .i64) [(tombs.length : Int)]) rfl (den_call rfl (putL N k b [(tombs.length : Int)] (by intro x hx; simp at hx; rw [hx]; exact nl _ (by omega)) (by simp; omega) hN) rfl ?_))
  simp only [List.cons_append, List.nil_append]
  refine den_let rfl (den_loop (den_jump rfl rfl ?_))
  have hb1 : (b ++ puts [(tombs.length : Int)]).length ≤ 1220 := by rw [List.length_append]; omega
  refine answer (rounds_ind (α := Int × List Int) (enc := fun s => [I s.1, Bs [], I i0, S RowT rows, S TombT tombs, I lost, S SessT ss, S LastT lasts, Bs s.2]) (ans := fun s => some [Bs (s.2 ++ ((tombs.drop s.1.toNat).flatMap encTomb ++ encS ss lasts))]) (meas := fun s => tombs.length - s.1.toNat)
    (Q := fun s => 0 ≤ s.1 ∧ s.1 ≤ tombs.length ∧ s.2.length ≤ 1220 + 30 * s.1.toNat) ?_ N (0, b ++ puts [(tombs.length : Int)]) ⟨by show (0 : Int) ≤ 0; omega, by show (0 : Int) ≤ tombs.length; omega, by dsimp only; omega⟩ (by show tombs.length - (0 : Int).toNat < N; omega)) (by simp [encT, puts])
  clear hb1 p0 hb hi1 hi0 hJ hp
  rintro J ⟨i, b⟩ ⟨hi0, hi1, hb⟩ hJ
  dsimp only at hi0 hi1 hb
  dsimp only
  simp only [List.cons_append, List.nil_append]
  refine den_let rfl (den_ite (b := decide (i < tombs.length)) rfl (fun c => ?_) (fun c => ?_))
  · have c : i < tombs.length := of_decide_eq_true c
    obtain ⟨r, hr, hm, hd⟩ := drop_step hi0 c
    obtain ⟨key, ix, u⟩ := r
    obtain ⟨g1, g2⟩ := gtg _ hm
    dsimp only at g1 g2
    have p1 := put_len (key.length : Int)
    have p3 := puts_len [ix]
    simp only [List.length_cons, List.length_nil] at p3
    simp only [List.cons_append, List.nil_append]
    refine den_idx rfl rfl rfl hi0 hr (den_let rfl (den_let rfl (den_let rfl ?_)))
    simp only [List.cons_append, List.nil_append]
    refine den_call rfl (putTI N k b key g1 (by omega) hN) rfl (den_let rfl (den_let (d := S (.int .i64) [ix]) rfl ?_))
    simp only [List.cons_append, List.nil_append]
    refine den_call rfl (putL N k _ [ix] (by intro x hx; simp at hx; rw [hx]; exact g2) (by simp only [List.length_append, List.length_cons, List.length_nil]; omega) hN) rfl ?_
    simp only [List.cons_append, List.nil_append]
    refine den_let (ev_add (x := i) (y := 1) rfl rfl (by omega) (by omega)) (den_jump rfl rfl ?_)
    rw [hd]
    refine answer (hJ (i + 1, _) ⟨by show 0 ≤ i + 1; omega, by show i + 1 ≤ (tombs.length : Int); omega, ?_⟩ (by show tombs.length - (i + 1).toNat < tombs.length - i.toNat; omega)) ?_
    · dsimp only
      simp only [List.length_append]
      omega
    · simp [encTomb, puts, List.flatMap_cons]
  have c : ¬ i < tombs.length := of_decide_eq_false c
  rw [drop_end c]
  simp only [List.flatMap_nil, List.nil_append, List.cons_append]
  have p0 := puts_len [(ss.length : Int)]
  simp only [List.length_cons, List.length_nil] at p0
  refine den_let rfl (den_let (d := S (.int .i64) [(ss.length : Int)]) rfl (den_call rfl (putL N k b [(ss.length : Int)] (by intro x hx; simp at hx; rw [hx]; exact nl _ (by omega)) (by simp; omega) hN) rfl ?_))
  simp only [List.cons_append, List.nil_append]
  refine den_let rfl (den_loop (den_jump rfl rfl ?_))
  have hb1 : (b ++ puts [(ss.length : Int)]).length ≤ 1600 := by rw [List.length_append]; omega
  refine answer (rounds_ind (α := Int × List Int) (enc := fun s => [I s.1, Bs [], I i0, S RowT rows, S TombT tombs, I lost, S SessT ss, S LastT lasts, Bs s.2]) (ans := fun s => some [Bs (s.2 ++ ((ss.drop s.1.toNat).flatMap encSess ++ encL lasts))]) (meas := fun s => ss.length - s.1.toNat)
    (Q := fun s => 0 ≤ s.1 ∧ s.1 ≤ ss.length ∧ s.2.length ≤ 1600 + 10 * s.1.toNat) ?_ N (0, b ++ puts [(ss.length : Int)]) ⟨by show (0 : Int) ≤ 0; omega, by show (0 : Int) ≤ ss.length; omega, by dsimp only; omega⟩ (by show ss.length - (0 : Int).toNat < N; omega)) (by simp [encS, puts])
  clear hb1 p0 hb hi1 hi0 hJ
  rintro J ⟨i, b⟩ ⟨hi0, hi1, hb⟩ hJ
  dsimp only at hi0 hi1 hb
  dsimp only
  simp only [List.cons_append, List.nil_append]
  refine den_let rfl (den_ite (b := decide (i < ss.length)) rfl (fun c => ?_) (fun c => ?_))
  · have c : i < ss.length := of_decide_eq_true c
    obtain ⟨r, hr, hm, hd⟩ := drop_step hi0 c
    obtain ⟨id, del, u⟩ := r
    have g1 := gsg _ hm
    have g1 : NumG id := g1
    have g2 : NumG (bit del) := by cases del <;> exact ⟨by decide, by decide⟩
    have p3 := puts_len [id, bit del]
    simp only [List.length_cons, List.length_nil] at p3
    simp only [List.cons_append, List.nil_append]
    refine den_idx rfl rfl rfl hi0 hr (den_let rfl (den_let rfl ?_))
    simp only [List.cons_append, List.nil_append]
    refine den_call rfl (truthI N (k + 1) del) rfl (den_let (d := S (.int .i64) [id, bit del]) rfl ?_)
    simp only [List.cons_append, List.nil_append]
    refine den_call rfl (putL N k b [id, bit del] (by intro x hx; simp at hx; rcases hx with rfl | rfl; exact g1; exact g2) (by simp only [List.length_append, List.length_cons, List.length_nil]; omega) hN) rfl ?_
    simp only [List.cons_append, List.nil_append]
    refine den_let (ev_add (x := i) (y := 1) rfl rfl (by omega) (by omega)) (den_jump rfl rfl ?_)
    rw [hd]
    refine answer (hJ (i + 1, _) ⟨by show 0 ≤ i + 1; omega, by show i + 1 ≤ (ss.length : Int); omega, ?_⟩ (by show ss.length - (i + 1).toNat < ss.length - i.toNat; omega)) ?_
    · dsimp only
      simp only [List.length_append]
      omega
    · simp [encSess, puts, List.flatMap_cons]
  have c : ¬ i < ss.length := of_decide_eq_false c
  rw [drop_end c]
  simp only [List.flatMap_nil, List.nil_append, List.cons_append]
  have p0 := puts_len [(lasts.length : Int)]
  simp only [List.length_cons, List.length_nil] at p0
  refine den_let rfl (den_let (d := S (.int .i64) [(lasts.length : Int)]) rfl (den_call rfl (putL N k b [(lasts.length : Int)] (by intro x hx; simp at hx; rw [hx]; exact nl _ (by omega)) (by simp; omega) hN) rfl ?_))
  simp only [List.cons_append, List.nil_append]
  refine den_let rfl (den_loop (den_jump rfl rfl ?_))
  have hb1 : (b ++ puts [(lasts.length : Int)]).length ≤ 1800 := by rw [List.length_append]; omega
  refine answer (rounds_ind (α := Int × List Int) (enc := fun s => [I s.1, Bs [], I i0, S RowT rows, S TombT tombs, I lost, S SessT ss, S LastT lasts, Bs s.2]) (ans := fun s => some [Bs (s.2 ++ ((lasts.drop s.1.toNat).flatMap encLast ++ []))]) (meas := fun s => lasts.length - s.1.toNat)
    (Q := fun s => 0 ≤ s.1 ∧ s.1 ≤ lasts.length ∧ s.2.length ≤ 1800 + 20 * s.1.toNat) ?_ N (0, b ++ puts [(lasts.length : Int)]) ⟨by show (0 : Int) ≤ 0; omega, by show (0 : Int) ≤ lasts.length; omega, by dsimp only; omega⟩ (by show lasts.length - (0 : Int).toNat < N; omega)) (by simp [encL, puts])
  clear hb1 p0 hb hi1 hi0 hJ
  rintro J ⟨i, b⟩ ⟨hi0, hi1, hb⟩ hJ
  dsimp only at hi0 hi1 hb
  dsimp only
  simp only [List.cons_append, List.nil_append]
  refine den_let rfl (den_ite (b := decide (i < lasts.length)) rfl (fun c => ?_) (fun c => ?_))
  · have c : i < lasts.length := of_decide_eq_true c
    obtain ⟨r, hr, hm, hd⟩ := drop_step hi0 c
    obtain ⟨x1, x2, x3, x4, u⟩ := r
    obtain ⟨g1, g2, g3, g4⟩ := gcg _ hm
    dsimp only at g1 g2 g3 g4
    have p3 := puts_len [x1, x2, x3, x4]
    simp only [List.length_cons, List.length_nil] at p3
    simp only [List.cons_append, List.nil_append]
    refine den_idx rfl rfl rfl hi0 hr (den_let rfl (den_let rfl ?_))
    simp only [List.cons_append, List.nil_append]
    refine den_let (d := S (.int .i64) [x1, x2, x3, x4]) rfl (den_call rfl (putL N k b [x1, x2, x3, x4] (by intro x hx; simp at hx; rcases hx with rfl | rfl | rfl | rfl; exact g1; exact g2; exact g3; exact g4) (by simp only [List.length_append, List.length_cons, List.length_nil]; omega) hN) rfl ?_)
    simp only [List.cons_append, List.nil_append]
    refine den_let (ev_add (x := i) (y := 1) rfl rfl (by omega) (by omega)) (den_jump rfl rfl ?_)
    rw [hd]
    refine answer (hJ (i + 1, _) ⟨by show 0 ≤ i + 1; omega, by show i + 1 ≤ (lasts.length : Int); omega, ?_⟩ (by show lasts.length - (i + 1).toNat < lasts.length - i.toNat; omega)) ?_
    · dsimp only
      simp only [List.length_append]
      omega
    · simp [encLast, puts, List.flatMap_cons]
  have c : ¬ i < lasts.length := of_decide_eq_false c
  rw [drop_end c]
  exact den_let rfl (den_ret rfl (by simp))
set_option maxHeartbeats 8000000 in
theorem bytesS (N k : Nat) {i0 lost : Int} {rows : List (D RowT)} {tombs : List (D TombT)} {ss : List (D SessT)} {lasts : List (D LastT)} (hg : Gd i0 lost rows tombs ss lasts) (hN : big ≤ N) :
    Lv N (k + 3) 70 [⟨StateT, (i0, rows, tombs, lost, ss, lasts, ())⟩] = some [Bs (enc i0 lost rows tombs ss lasts)] := by
  have hbig : big = 1048577 := rfl
  obtain ⟨gi, gl, gr, gt, gs, gc, grg, gtg, gsg, gcg⟩ := hg
  have nl : ∀ n : Nat, n ≤ 20 → NumG n := fun n hn => ⟨by omega, by unfold maxN; omega⟩
  refine level_den rfl rfl ?_ rfl
  unfold ir70
  have q1 := put_len i0
  have q2 := put_len lost
  have q3 := put_len (rows.length : Int)
  refine den_let rfl (den_call rfl (putS N (k + 1) [] i0 gi.1 gi.2 (by simp; omega) hN) rfl ?_)
  simp only [List.cons_append, List.nil_append]
  refine den_call rfl (putS N (k + 1) (put i0) lost gl.1 gl.2 (by omega) hN) rfl (den_let rfl ?_)
  simp only [List.cons_append, List.nil_append]
  refine den_call rfl (putS N (k + 1) (put i0 ++ put lost) rows.length (nl _ gr).1 (nl _ gr).2 (by rw [List.length_append]; omega) hN) rfl ?_
  simp only [List.cons_append, List.nil_append]
  refine den_loop (den_jump rfl rfl ?_)
  have hb1 : (put i0 ++ put lost ++ put (rows.length : Int)).length ≤ 15 := by simp only [List.length_append]; omega
  refine answer (rounds_ind (α := Int × List Int) (enc := fun s => [Bs s.2, I s.1, Bs [], Bs (put i0), Bs (put i0 ++ put lost)]) (ans := fun s => some [Bs (s.2 ++ ((rows.drop s.1.toNat).flatMap encRow ++ encT tombs ss lasts))]) (meas := fun s => rows.length - s.1.toNat)
    (Q := fun s => 0 ≤ s.1 ∧ s.1 ≤ rows.length ∧ s.2.length ≤ 15 + 60 * s.1.toNat) ?_ N (0, put i0 ++ put lost ++ put (rows.length : Int)) ⟨by show (0 : Int) ≤ 0; omega, by show (0 : Int) ≤ rows.length; omega, by dsimp only; omega⟩ (by show rows.length - (0 : Int).toNat < N; omega)) (by simp [enc, encR])
  rintro J ⟨i, b⟩ ⟨hi0, hi1, hb⟩ hJ
  dsimp only at hi0 hi1 hb
  dsimp only
  simp only [List.cons_append, List.nil_append]
  refine den_let rfl (den_let rfl (den_ite (b := decide (i < rows.length)) rfl (fun c => ?_) (fun c => ?_)))
  · have c : i < rows.length := of_decide_eq_true c
    obtain ⟨r, hr, hm, hd⟩ := drop_step hi0 c
    obtain ⟨key, val, tu, ho, u⟩ := r
    obtain ⟨g1, g2, g3, g4⟩ := grg _ hm
    dsimp only at g1 g2 g3 g4
    have p1 := put_len (key.length : Int)
    have p2 := put_len (val.length : Int)
    have p3 := put_len tu
    have p4 := put_len ho
    simp only [List.cons_append, List.nil_append]
    refine den_idx rfl rfl rfl hi0 hr (den_let rfl (den_let rfl ?_))
    simp only [List.cons_append, List.nil_append]
    refine den_call rfl (putTS N k b key g1 (by omega) hN) rfl (den_call rfl (putTS N k (b ++ (put (key.length : Int) ++ key)) val g2 (by simp only [List.length_append]; omega) hN) rfl ?_)
    simp only [List.cons_append, List.nil_append]
    refine den_call rfl (putS N (k + 1) _ _ g3.1 g3.2 (by simp only [List.length_append]; omega) hN) rfl (den_call rfl (putS N (k + 1) _ _ g4.1 g4.2 (by simp only [List.length_append]; omega) hN) rfl ?_)
    simp only [List.cons_append, List.nil_append]
    refine den_let (ev_add (x := i) (y := 1) rfl rfl (by omega) (by omega)) (den_jump rfl rfl ?_)
    rw [hd]
    refine answer (hJ (i + 1, _) ⟨by show 0 ≤ i + 1; omega, by show i + 1 ≤ (rows.length : Int); omega, ?_⟩ (by show rows.length - (i + 1).toNat < rows.length - i.toNat; omega)) ?_
    · dsimp only
      simp only [List.length_append]
      omega
    · simp [encRow, List.flatMap_cons]
  have c : ¬ i < rows.length := of_decide_eq_false c
  rw [drop_end c]
  simp only [List.flatMap_nil, List.nil_append, List.cons_append]
  have p0 := put_len (tombs.length : Int)
  refine den_let rfl (den_call rfl (putS N (k + 1) b tombs.length (nl _ (by omega)).1 (nl _ (by omega)).2 (by omega) hN) rfl ?_)
  simp only [List.cons_append, List.nil_append]
  refine den_loop (den_jump rfl rfl ?_)
  have hb1 : (b ++ put (tombs.length : Int)).length ≤ 1220 := by rw [List.length_append]; omega
  refine answer (rounds_ind (α := Int × List Int) (enc := fun s => [Bs s.2, I s.1, Bs [], Bs (put i0), Bs (put i0 ++ put lost)]) (ans := fun s => some [Bs (s.2 ++ ((tombs.drop s.1.toNat).flatMap encTomb ++ encS ss lasts))]) (meas := fun s => tombs.length - s.1.toNat)
    (Q := fun s => 0 ≤ s.1 ∧ s.1 ≤ tombs.length ∧ s.2.length ≤ 1220 + 30 * s.1.toNat) ?_ N (0, b ++ put (tombs.length : Int)) ⟨by show (0 : Int) ≤ 0; omega, by show (0 : Int) ≤ tombs.length; omega, by dsimp only; omega⟩ (by show tombs.length - (0 : Int).toNat < N; omega)) (by simp [encT])
  clear hb1 p0 hb hi1 hi0 hJ
  rintro J ⟨i, b⟩ ⟨hi0, hi1, hb⟩ hJ
  dsimp only at hi0 hi1 hb
  dsimp only
  simp only [List.cons_append, List.nil_append]
  refine den_let rfl (den_let rfl (den_ite (b := decide (i < tombs.length)) rfl (fun c => ?_) (fun c => ?_)))
  · have c : i < tombs.length := of_decide_eq_true c
    obtain ⟨r, hr, hm, hd⟩ := drop_step hi0 c
    obtain ⟨key, ix, u⟩ := r
    obtain ⟨g1, g2⟩ := gtg _ hm
    dsimp only at g1 g2
    have p1 := put_len (key.length : Int)
    have p3 := put_len ix
    simp only [List.cons_append, List.nil_append]
    refine den_idx rfl rfl rfl hi0 hr (den_let rfl ?_)
    simp only [List.cons_append, List.nil_append]
    refine den_call rfl (putTS N k b key g1 (by omega) hN) rfl (den_idx rfl rfl rfl hi0 hr (den_let rfl ?_))
    simp only [List.cons_append, List.nil_append]
    refine den_call rfl (putS N (k + 1) _ _ g2.1 g2.2 (by simp only [List.length_append]; omega) hN) rfl ?_
    simp only [List.cons_append, List.nil_append]
    refine den_let (ev_add (x := i) (y := 1) rfl rfl (by omega) (by omega)) (den_jump rfl rfl ?_)
    rw [hd]
    refine answer (hJ (i + 1, _) ⟨by show 0 ≤ i + 1; omega, by show i + 1 ≤ (tombs.length : Int); omega, ?_⟩ (by show tombs.length - (i + 1).toNat < tombs.length - i.toNat; omega)) ?_
    · dsimp only
      simp only [List.length_append]
      omega
    · simp [encTomb, List.flatMap_cons]
  have c : ¬ i < tombs.length := of_decide_eq_false c
  rw [drop_end c]
  simp only [List.flatMap_nil, List.nil_append, List.cons_append]
  have p0 := put_len (ss.length : Int)
  refine den_let rfl (den_call rfl (putS N (k + 1) b ss.length (nl _ (by omega)).1 (nl _ (by omega)).2 (by omega) hN) rfl ?_)
  simp only [List.cons_append, List.nil_append]
  refine den_loop (den_jump rfl rfl ?_)
  have hb1 : (b ++ put (ss.length : Int)).length ≤ 1600 := by rw [List.length_append]; omega
  refine answer (rounds_ind (α := Int × List Int) (enc := fun s => [Bs s.2, I s.1, Bs [], Bs (put i0), Bs (put i0 ++ put lost)]) (ans := fun s => some [Bs (s.2 ++ ((ss.drop s.1.toNat).flatMap encSess ++ encL lasts))]) (meas := fun s => ss.length - s.1.toNat)
    (Q := fun s => 0 ≤ s.1 ∧ s.1 ≤ ss.length ∧ s.2.length ≤ 1600 + 10 * s.1.toNat) ?_ N (0, b ++ put (ss.length : Int)) ⟨by show (0 : Int) ≤ 0; omega, by show (0 : Int) ≤ ss.length; omega, by dsimp only; omega⟩ (by show ss.length - (0 : Int).toNat < N; omega)) (by simp [encS])
  clear hb1 p0 hb hi1 hi0 hJ
  rintro J ⟨i, b⟩ ⟨hi0, hi1, hb⟩ hJ
  dsimp only at hi0 hi1 hb
  dsimp only
  simp only [List.cons_append, List.nil_append]
  refine den_let rfl (den_let rfl (den_ite (b := decide (i < ss.length)) rfl (fun c => ?_) (fun c => ?_)))
  · have c : i < ss.length := of_decide_eq_true c
    obtain ⟨r, hr, hm, hd⟩ := drop_step hi0 c
    obtain ⟨id, del, u⟩ := r
    have g1 := gsg _ hm
    have g1 : NumG id := g1
    have p1 := put_len id
    have p2 := put_len (bit del)
    simp only [List.cons_append, List.nil_append]
    refine den_idx rfl rfl rfl hi0 hr (den_let rfl ?_)
    simp only [List.cons_append, List.nil_append]
    refine den_call rfl (putS N (k + 1) b _ g1.1 g1.2 (by omega) hN) rfl (den_idx rfl rfl rfl hi0 hr (den_let rfl ?_))
    simp only [List.cons_append, List.nil_append]
    refine den_call rfl (flagS N k _ del (by simp only [List.length_append]; omega) hN) rfl ?_
    simp only [List.cons_append, List.nil_append]
    refine den_let (ev_add (x := i) (y := 1) rfl rfl (by omega) (by omega)) (den_jump rfl rfl ?_)
    rw [hd]
    refine answer (hJ (i + 1, _) ⟨by show 0 ≤ i + 1; omega, by show i + 1 ≤ (ss.length : Int); omega, ?_⟩ (by show ss.length - (i + 1).toNat < ss.length - i.toNat; omega)) ?_
    · dsimp only
      simp only [List.length_append]
      omega
    · simp [encSess, List.flatMap_cons]
  have c : ¬ i < ss.length := of_decide_eq_false c
  rw [drop_end c]
  simp only [List.flatMap_nil, List.nil_append, List.cons_append]
  have p0 := put_len (lasts.length : Int)
  refine den_let rfl (den_call rfl (putS N (k + 1) b lasts.length (nl _ (by omega)).1 (nl _ (by omega)).2 (by omega) hN) rfl ?_)
  simp only [List.cons_append, List.nil_append]
  refine den_loop (den_jump rfl rfl ?_)
  have hb1 : (b ++ put (lasts.length : Int)).length ≤ 1800 := by rw [List.length_append]; omega
  refine answer (rounds_ind (α := Int × List Int) (enc := fun s => [Bs s.2, I s.1, Bs [], Bs (put i0), Bs (put i0 ++ put lost)]) (ans := fun s => some [Bs (s.2 ++ ((lasts.drop s.1.toNat).flatMap encLast ++ []))]) (meas := fun s => lasts.length - s.1.toNat)
    (Q := fun s => 0 ≤ s.1 ∧ s.1 ≤ lasts.length ∧ s.2.length ≤ 1800 + 20 * s.1.toNat) ?_ N (0, b ++ put (lasts.length : Int)) ⟨by show (0 : Int) ≤ 0; omega, by show (0 : Int) ≤ lasts.length; omega, by dsimp only; omega⟩ (by show lasts.length - (0 : Int).toNat < N; omega)) (by simp [encL])
  clear hb1 p0 hb hi1 hi0 hJ
  rintro J ⟨i, b⟩ ⟨hi0, hi1, hb⟩ hJ
  dsimp only at hi0 hi1 hb
  dsimp only
  simp only [List.cons_append, List.nil_append]
  refine den_let rfl (den_let rfl (den_ite (b := decide (i < lasts.length)) rfl (fun c => ?_) (fun c => ?_)))
  · have c : i < lasts.length := of_decide_eq_true c
    obtain ⟨r, hr, hm, hd⟩ := drop_step hi0 c
    obtain ⟨x1, x2, x3, x4, u⟩ := r
    obtain ⟨g1, g2, g3, g4⟩ := gcg _ hm
    dsimp only at g1 g2 g3 g4
    have p1 := put_len x1
    have p2 := put_len x2
    have p3 := put_len x3
    have p4 := put_len x4
    simp only [List.cons_append, List.nil_append]
    refine den_idx rfl rfl rfl hi0 hr (den_let rfl (den_let rfl ?_))
    simp only [List.cons_append, List.nil_append]
    refine den_call rfl (putS N (k + 1) b _ g1.1 g1.2 (by omega) hN) rfl (den_call rfl (putS N (k + 1) _ _ g2.1 g2.2 (by simp only [List.length_append]; omega) hN) rfl ?_)
    simp only [List.cons_append, List.nil_append]
    refine den_call rfl (putS N (k + 1) _ _ g3.1 g3.2 (by simp only [List.length_append]; omega) hN) rfl (den_call rfl (putS N (k + 1) _ _ g4.1 g4.2 (by simp only [List.length_append]; omega) hN) rfl ?_)
    simp only [List.cons_append, List.nil_append]
    refine den_let (ev_add (x := i) (y := 1) rfl rfl (by omega) (by omega)) (den_jump rfl rfl ?_)
    rw [hd]
    refine answer (hJ (i + 1, _) ⟨by show 0 ≤ i + 1; omega, by show i + 1 ≤ (lasts.length : Int); omega, ?_⟩ (by show lasts.length - (i + 1).toNat < lasts.length - i.toNat; omega)) ?_
    · dsimp only
      simp only [List.length_append]
      omega
    · simp [encLast, List.flatMap_cons]
  have c : ¬ i < lasts.length := of_decide_eq_false c
  rw [drop_end c]
  exact den_ret rfl (by simp)
end Go.Proofs.Ytecleaangfcloab.VtFnExactStateRead
