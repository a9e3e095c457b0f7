/- Directories: where a name has room (dir.Room). -/
import Derived.Test.YtgpanbmjmpondaaDirH
namespace Go.Proofs.Ytgpanbmjmpondaa
set_option maxRecDepth 4000
open Go Go.Par PH
def cellsR (r : List Chu) : List Slo := r.flatMap fun x => x.sl
def tenR (r : List Chu) : Prop := ∀ x ∈ r, x.sl.length = 10
theorem cells_get : ∀ (r : List Chu) (_ : tenR r) (c : Nat) (hc : c < r.length) (i : Nat), i < 10 → (cellsR r)[c * 10 + i]? = r[c].sl[i]?
  | [], _, c, hc, _, _ => by simp at hc
  | x :: r, h, 0, hc, i, hi => by
    have := h x (by simp)
    simp only [cellsR, List.flatMap_cons, Nat.zero_mul, Nat.zero_add, List.getElem_cons_zero]
    rw [List.getElem?_append_left (by omega)]
  | x :: r, h, c + 1, hc, i, hi => by
    have h1 := h x (by simp)
    have ih := cells_get r (fun y hy => h y (by simp [hy])) c (by simpa using hc) i hi
    simp only [cellsR, List.flatMap_cons, List.getElem_cons_succ] at ih ⊢
    rw [List.getElem?_append_right (by omega), ← ih]
    congr 1; omega
theorem cells_len : ∀ (r : List Chu), tenR r → (cellsR r).length = r.length * 10
  | [], _ => rfl
  | x :: r, h => by
    have h1 := h x (by simp)
    have ih := cells_len r (fun y hy => h y (by simp [hy]))
    simp only [cellsR, List.flatMap_cons, List.length_append, List.length_cons] at ih ⊢
    omega
theorem bucket_ok (l : Bs) : ∃ k : Nat, bucketL l = (k : Int) ∧ k < 4 := by
  have h1 : 0 ≤ bucketL l ∧ bucketL l < 4 := by unfold bucketL; omega
  obtain ⟨k, hk⟩ := Int.eq_ofNat_of_zero_le h1.1
  exact ⟨k, hk, by omega⟩
def emR (r : List Chu) : Option Nat := (cellsR r).findIdx? fun x => decide (x = slo0)
def roomR (d : Dr) (s : Bs) : Spo × Bool × Int :=
  if mayD d = true ∧ checkE s = 0 then
    match fndL s (allL d) with
    | some _ => (spo0, false, 8)
    | none => match emR (d.row (bucketL s).toNat) with
      | some n => (⟨bucketL s, (n / 10 : Nat), (n % 10 : Nat)⟩, false, 0)
      | none => if (d.row (bucketL s).toNat).length = 255 then (spo0, false, 4) else (⟨bucketL s, (d.row (bucketL s).toNat).length, 0⟩, true, 0)
  else (spo0, false, 2)
def roomV (r : Spo × Bool × Int) : Value := .tuple #[spoV r.1, .bool r.2.1, .int .i64 r.2.2]
theorem DrV.ten {h : PH} {v : Value} {d : Dr} (hv : DrV h v d) : ∀ k, k < 4 → tenR (d.row k) := by
  obtain ⟨x0, x1, x2, x3, rfl, h0, h1, h2, h3⟩ := hv
  have one : ∀ {v : Value} {r : List Chu}, Sl encChu 31 h v r → tenR r := fun hs x hx => by
    obtain ⟨_, _, _, _, _, _, _, _, _, _, e⟩ := chu_ten (hs.1 x hx)
    rw [e]; rfl
  intro k hk
  match k, hk with
  | 0, _ => exact one h0
  | 1, _ => exact one h1
  | 2, _ => exact one h2
  | 3, _ => exact one h3
theorem findR_may {d : Dr} {s : Bs} (h : mayD d = true) : (findR d s).2.2 = (match fndL s (allL d) with | some _ => 0 | none => 3) := by
  unfold findR; rw [if_pos h]; cases fndL s (allL d) <;> rfl
def noneTo (r : List Chu) (n : Nat) : Prop := ∀ j x, j < n → (cellsR r)[j]? = some x → ¬ x = slo0
theorem emR_some {r : List Chu} {n : Nat} (h : noneTo r n) (hn : (cellsR r)[n]? = some slo0) : emR r = some n := by
  unfold emR
  rw [List.findIdx?_eq_some_iff_getElem]
  obtain ⟨hl, he⟩ := List.getElem?_eq_some_iff.1 hn
  refine ⟨hl, by simp [he], fun j hj => ?_⟩
  have := h j _ hj (List.getElem?_eq_getElem (by omega))
  simp [this]
theorem emR_none {r : List Chu} (ht : tenR r) (h : noneTo r (r.length * 10)) : emR r = none := by
  unfold emR
  rw [List.findIdx?_eq_none_iff]
  intro x hx
  obtain ⟨j, hj, rfl⟩ := List.getElem_of_mem hx
  have hg : (cellsR r)[j]? = some (cellsR r)[j] := List.getElem?_eq_getElem hj
  have := h j _ (by rw [cells_len r ht] at hj; exact hj) hg
  simp [this]
structure AtX where
  c : Nat
  s : Nat
attribute [local irreducible] W WL Does Exec Body Then inBlk RG WR row obj pblk
set_option maxHeartbeats 4000000 in
theorem room_fn (h : PH) (v : Value) (d : Dr) (s : Bs) (hv : DrV h v d) (hb : maxR d ≤ 1000000) (hn : nmsOk d) (hs : s.length ≤ 1000000) : Does Try.prog 12 [v, .string (mkB s)] [] h (Ret fun r _ _ => r = roomV (roomR d s)) := by
  have hfi := find_fn h v d s hv hb hn
  have hte := hv.ten
  have hcc := checkB_fn h s
  have hbu := bucket_fn h s hs
  obtain ⟨x0, x1, x2, x3, rfl, h0, h1, h2, h3⟩ := hv
  have hrow : ∀ k, k < 4 → ∃ xk, [x0, x1, x2, x3][k]? = some xk ∧ Sl encChu 31 h xk (d.row k) := fun k hk => by
    match k, hk with
    | 0, _ => exact ⟨x0, rfl, h0⟩
    | 1, _ => exact ⟨x1, rfl, h1⟩
    | 2, _ => exact ⟨x2, rfl, h2⟩
    | 3, _ => exact ⟨x3, rfl, h3⟩
  have hvc : vcO (drV x0 x1 x2 x3) = some [x0, x1, x2, x3] := by
    obtain ⟨_, _, e0⟩ := h0.shape
    obtain ⟨_, _, e1⟩ := h1.shape
    obtain ⟨_, _, e2⟩ := h2.shape
    obtain ⟨_, _, e3⟩ := h3.shape
    subst e0; subst e1; subst e2; subst e3; rfl
  obtain ⟨p, x, e, hfr⟩ : ∃ p x e, findR d s = (p, x, e) := ⟨_, _, _, rfl⟩
  rw [hfr] at hfi
  unfold drV at hfi hvc ⊢
  unfold findV spoV sloV at hfi
  dsimp only at hfi
  refine Does_of_W Try.func12 rfl (n := 89) rfl rfl (by simp only [argE, Nat.reduceAdd] <;> rfl) ?_
  (repeat (first | refine W_seq ?_))
  refine W_region rfl ?_
  refine WL_box rfl rfl hvc rfl rfl rfl ?_
  intro b2
  (refine WL_alloc rfl rfl rfl rfl rfl rfl ?_; intro b_)
  generalize b_ = b4
  refine WL_is (X_assign rfl rfl) rfl rfl rfl ?_
  refine WL_is (X_assign rfl rfl) rfl rfl rfl ?_
  (repeat (first | refine WL_nil ?_ | refine Then_normal ?_ | refine W_seq ?_ | refine W_scope ?_))
  have hr2 : e = 2 ∨ ¬ checkE s = 0 → roomR d s = (spo0, false, 2) := fun hh => by
    unfold roomR
    rw [if_neg]
    rintro ⟨hm, hc⟩
    rcases hh with hh | hh
    · have := findR_may (s := s) hm
      rw [hfr] at this
      dsimp only at this
      split at this <;> omega
    · exact hh hc
  by_cases he2 : e = 2
  · rw [hr2 (.inl he2)]
    skip
    refine W_region rfl ?_
    refine WL_is (X_loadA rfl rfl (by exact idx1) rfl rfl rfl) rfl rfl rfl ?_
    refine WL_is (X_move rfl rfl) rfl rfl rfl ?_
    refine WL_is (X_callv rfl rfl rfl Try.func11 rfl (by assumption)) rfl rfl rfl ?_
    refine WL_is (X_move rfl rfl) rfl rfl rfl ?_
    refine WL_is (X_extract rfl rfl rfl) rfl rfl rfl ?_
    refine WL_is (X_extract rfl rfl rfl) rfl rfl rfl ?_
    refine WL_is (X_extract rfl rfl rfl) rfl rfl rfl ?_
    (refine WL_alloc rfl rfl rfl rfl rfl rfl ?_; intro b_)
    (refine WL_alloc rfl rfl rfl rfl rfl rfl ?_; intro b_)
    refine WL_store rfl rfl rfl (by exact idx1) rfl rfl rfl rfl rfl rfl rfl rfl rfl ?_
    refine WL_store rfl rfl rfl (by exact idx0) rfl rfl rfl rfl rfl rfl rfl rfl rfl ?_
    refine WL_is (X_assign rfl rfl) rfl rfl rfl ?_
    (repeat (first | refine WL_nil ?_ | refine Then_normal ?_ | refine W_seq ?_ | refine W_block ?_))
    skip
    refine W_region rfl ?_
    refine WL_is (X_move rfl rfl) rfl rfl rfl ?_
    refine WL_is (X_eql_t rfl rfl rfl (by omega)) rfl rfl rfl ?_
    refine WL_is (X_assign rfl rfl) rfl rfl rfl ?_
    (repeat (first | refine WL_nil ?_ | refine Then_normal ?_ | refine W_seq ?_ | refine W_skip ?_ | refine W_true rfl ?_))
    skip
    refine W_region rfl ?_
    refine WL_is (X_loadA rfl rfl (by exact idx2) rfl rfl rfl) rfl rfl rfl ?_
    refine WL_store rfl rfl rfl (by exact idx2) rfl rfl rfl rfl rfl rfl rfl rfl rfl ?_
    refine WL_is (X_assign rfl rfl) rfl rfl rfl ?_
    refine WL_is (X_assign rfl rfl) rfl rfl rfl ?_
    (repeat (first | refine WL_nil ?_ | refine Then_normal ?_ | refine W_ret ?_ | refine Then_ret ?_ | refine inBlk_ret ?_ | refine noG_ret ?_))
    refine Body_vals (.cons (.cellA rfl idx2 rfl rfl rfl) (.cons (.tmp rfl) (.cons (.tmp rfl) .nil))) rfl ?_
    exact UpdE.of (Upd.sub (SubR.none _)) rfl
  · by_cases hce : checkE s = 0
    · have hm : mayD d = true := by
        cases hm : mayD d with
        | true => rfl
        | false =>
          exfalso; apply he2
          have : (findR d s).2.2 = 2 := by unfold findR; rw [hm]; rfl
          rw [hfr] at this; exact this
      have hme := findR_may (s := s) hm
      rw [hfr] at hme
      dsimp only at hme
      have hrr : roomR d s = _ := if_pos ⟨hm, hce⟩
      cases hff : fndL s (allL d) with
      | some q =>
        rw [hff] at hme hrr
        dsimp only at hme hrr
        rw [hrr]
        skip
        refine W_region rfl ?_
        refine WL_is (X_loadA rfl rfl (by exact idx1) rfl rfl rfl) rfl rfl rfl ?_
        refine WL_is (X_move rfl rfl) rfl rfl rfl ?_
        refine WL_is (X_callv rfl rfl rfl Try.func11 rfl (by assumption)) rfl rfl rfl ?_
        refine WL_is (X_move rfl rfl) rfl rfl rfl ?_
        refine WL_is (X_extract rfl rfl rfl) rfl rfl rfl ?_
        refine WL_is (X_extract rfl rfl rfl) rfl rfl rfl ?_
        refine WL_is (X_extract rfl rfl rfl) rfl rfl rfl ?_
        (refine WL_alloc rfl rfl rfl rfl rfl rfl ?_; intro b_)
        (refine WL_alloc rfl rfl rfl rfl rfl rfl ?_; intro b_)
        refine WL_store rfl rfl rfl (by exact idx1) rfl rfl rfl rfl rfl rfl rfl rfl rfl ?_
        refine WL_store rfl rfl rfl (by exact idx0) rfl rfl rfl rfl rfl rfl rfl rfl rfl ?_
        refine WL_is (X_assign rfl rfl) rfl rfl rfl ?_
        (repeat (first | refine WL_nil ?_ | refine Then_normal ?_ | refine W_seq ?_ | refine W_block ?_))
        skip
        refine W_region rfl ?_
        refine WL_is (X_move rfl rfl) rfl rfl rfl ?_
        refine WL_is (X_eql_f rfl rfl rfl (by omega)) rfl rfl rfl ?_
        refine WL_is (X_assign rfl rfl) rfl rfl rfl ?_
        (repeat (first | refine WL_nil ?_ | refine Then_normal ?_ | refine W_false rfl ?_))
        skip
        refine W_region rfl ?_
        refine WL_is (X_move rfl rfl) rfl rfl rfl ?_
        refine WL_is (X_callv rfl rfl rfl Try.func32 rfl (by assumption)) rfl rfl rfl ?_
        refine WL_is (X_neq_f rfl rfl rfl (by omega)) rfl rfl rfl ?_
        refine WL_is (X_assign rfl rfl) rfl rfl rfl ?_
        (repeat (first | refine WL_nil ?_ | refine Then_normal ?_ | refine W_seq ?_ | refine W_false rfl ?_))
        skip
        refine W_region rfl ?_
        refine WL_is (X_move rfl rfl) rfl rfl rfl ?_
        refine WL_is (X_eql_t rfl rfl rfl (by omega)) rfl rfl rfl ?_
        refine WL_is (X_assign rfl rfl) rfl rfl rfl ?_
        (repeat (first | refine WL_nil ?_ | refine Then_normal ?_ | refine W_seq ?_ | refine W_true rfl ?_))
        skip
        refine W_region rfl ?_
        refine WL_is (X_loadA rfl rfl (by exact idx2) rfl rfl rfl) rfl rfl rfl ?_
        refine WL_store rfl rfl rfl (by exact idx2) rfl rfl rfl rfl rfl rfl rfl rfl rfl ?_
        refine WL_is (X_assign rfl rfl) rfl rfl rfl ?_
        refine WL_is (X_assign rfl rfl) rfl rfl rfl ?_
        (repeat (first | refine WL_nil ?_ | refine Then_normal ?_ | refine W_ret ?_ | refine Then_ret ?_ | refine inBlk_ret ?_ | refine noG_ret ?_))
        refine Body_vals (.cons (.cellA rfl idx2 rfl rfl rfl) (.cons (.tmp rfl) (.cons (.tmp rfl) .nil))) rfl ?_
        exact UpdE.of (Upd.sub (SubR.none _)) rfl
      | none =>
        rw [hff] at hme hrr
        dsimp only at hme hrr
        rw [hrr]
        have he0 : ¬ e = 0 := by omega
        obtain ⟨k, hk, hk4⟩ := bucket_ok s
        rw [hk] at hbu ⊢
        obtain ⟨xk, hxk, hsk⟩ := hrow k hk4
        obtain ⟨xa, xc, rfl⟩ := hsk.shape
        have htk := hte k hk4
        simp only [Int.toNat_natCast] at hrr ⊢
        have hmx := row_le d k
        skip
        refine W_region rfl ?_
        refine WL_is (X_loadA rfl rfl (by exact idx1) rfl rfl rfl) rfl rfl rfl ?_
        refine WL_is (X_move rfl rfl) rfl rfl rfl ?_
        refine WL_is (X_callv rfl rfl rfl Try.func11 rfl (by assumption)) rfl rfl rfl ?_
        refine WL_is (X_move rfl rfl) rfl rfl rfl ?_
        refine WL_is (X_extract rfl rfl rfl) rfl rfl rfl ?_
        refine WL_is (X_extract rfl rfl rfl) rfl rfl rfl ?_
        refine WL_is (X_extract rfl rfl rfl) rfl rfl rfl ?_
        (refine WL_alloc rfl rfl rfl rfl rfl rfl ?_; intro b_)
        (refine WL_alloc rfl rfl rfl rfl rfl rfl ?_; intro b_)
        refine WL_store rfl rfl rfl (by exact idx1) rfl rfl rfl rfl rfl rfl rfl rfl rfl ?_
        refine WL_store rfl rfl rfl (by exact idx0) rfl rfl rfl rfl rfl rfl rfl rfl rfl ?_
        refine WL_is (X_assign rfl rfl) rfl rfl rfl ?_
        (repeat (first | refine WL_nil ?_ | refine Then_normal ?_ | refine W_seq ?_ | refine W_block ?_))
        skip
        refine W_region rfl ?_
        refine WL_is (X_move rfl rfl) rfl rfl rfl ?_
        refine WL_is (X_eql_f rfl rfl rfl (by omega)) rfl rfl rfl ?_
        refine WL_is (X_assign rfl rfl) rfl rfl rfl ?_
        (repeat (first | refine WL_nil ?_ | refine Then_normal ?_ | refine W_false rfl ?_))
        skip
        refine W_region rfl ?_
        refine WL_is (X_move rfl rfl) rfl rfl rfl ?_
        refine WL_is (X_callv rfl rfl rfl Try.func32 rfl (by assumption)) rfl rfl rfl ?_
        refine WL_is (X_neq_f rfl rfl rfl (by omega)) rfl rfl rfl ?_
        refine WL_is (X_assign rfl rfl) rfl rfl rfl ?_
        (repeat (first | refine WL_nil ?_ | refine Then_normal ?_ | refine W_seq ?_ | refine W_false rfl ?_))
        skip
        refine W_region rfl ?_
        refine WL_is (X_move rfl rfl) rfl rfl rfl ?_
        refine WL_is (X_eql_f rfl rfl rfl (by omega)) rfl rfl rfl ?_
        refine WL_is (X_assign rfl rfl) rfl rfl rfl ?_
        (repeat (first | refine WL_nil ?_ | refine Then_normal ?_ | refine W_seq ?_ | refine W_skip ?_ | refine inBlk_normal ?_ | refine W_false rfl ?_))
        skip
        refine W_region rfl ?_
        refine WL_is (X_move rfl rfl) rfl rfl rfl ?_
        refine WL_is (X_callv rfl rfl rfl Try.func33 rfl (by assumption)) rfl rfl rfl ?_
        refine WL_is (X_assign rfl rfl) rfl rfl rfl ?_
        (repeat (first | refine WL_nil ?_ | refine Then_normal ?_ | refine W_seq ?_))
        skip
        refine W_region rfl ?_
        refine WL_is (X_move rfl rfl) rfl rfl rfl ?_
        refine WL_is (X_fieldAddr rfl rfl rfl (by simp only [Nat.zero_add] <;> rfl)) rfl rfl rfl ?_
        refine WL_store rfl rfl rfl (by exact idx2) rfl rfl rfl rfl rfl rfl rfl rfl rfl ?_
        (repeat (first | refine WL_nil ?_ | refine Then_normal ?_ | refine W_seq ?_ | refine W_label ?_))
        skip
        refine W_region rfl ?_
        refine WL_is (X_move rfl rfl) rfl rfl rfl ?_
        refine WL_is (X_fieldAddr rfl rfl rfl (by simp only [Nat.zero_add] <;> rfl)) rfl rfl rfl ?_
        refine WL_is (X_index_arr (sz := 1) rfl rfl rfl rfl rfl (by omega) (by omega) (by simp only [Nat.zero_add, Int.toNat_natCast, Nat.mul_one] <;> rfl)) rfl rfl rfl ?_
        refine WL_is (X_load1 rfl rfl (by exact idx3) rfl (by assumption)) rfl rfl rfl ?_
        refine WL_is (X_len_sl rfl rfl rfl (by assumption)) rfl rfl rfl ?_
        refine WL_is (X_move rfl rfl) rfl rfl rfl ?_
        (repeat (first | refine WL_nil ?_ | refine Then_normal ?_))
        refine W_cutT (X := AtX) (L := fun x => ⟨[(2, .pointer (some ⟨b2, 0, none⟩)), (4, .pointer (some ⟨b4, 0, none⟩)), (10, .int .i64 (k : Int))], [], [blk b4 [.int .i64 (k : Int), .int .i64 (x.c : Int), .int .i64 (x.s : Int)] 32, blk b2 [x0, x1, x2, x3] 25], h⟩) (p := fun x => (emR (d.row k) = some (x.c * 10 + x.s) ∧ x.s < 10 ∧ x.c < (d.row k).length) ∨ (emR (d.row k) = none ∧ x.c = (d.row k).length ∧ (x.s = 10 ∨ x.s = 0))) ?_ ?_
        · refine W_block ?_
          refine W_loop (X := AtX) (L := fun x => ⟨[(42, .int .i64 (x.c : Int)), (41, .int .i64 ((d.row k).length : Int)), (40, .slice xa (d.row k).length xc), (2, .pointer (some ⟨b2, 0, none⟩)), (4, .pointer (some ⟨b4, 0, none⟩)), (10, .int .i64 (k : Int))], [], [blk b4 [.int .i64 (k : Int), .int .i64 (x.c : Int), .int .i64 (x.s : Int)] 32, blk b2 [x0, x1, x2, x3] 25], h⟩) (p := fun x => x.c ≤ (d.row k).length ∧ noneTo (d.row k) (x.c * 10) ∧ (x.s = 10 ∨ x.s = 0)) (μ := fun x => (d.row k).length - x.c) ⟨0, 0⟩ ⟨(by repeat (first | exact SubE_nil | refine SubE_cons rfl ?_)), rfl, .skip _ (.skip _ (SubR.refl _)), rfl⟩ ⟨Nat.zero_le _, (fun j x hj => by simp at hj), .inr rfl⟩ ?_
          rintro ⟨c, i0⟩ ⟨hcl, hno, hi0⟩
          dsimp only at hcl hno hi0 ⊢
          by_cases hc : c < (d.row k).length
          · obtain ⟨s0, s1, s2, s3, s4, s5, s6, s7, s8, s9, hsl⟩ := chu_ten (hsk.1 _ (List.getElem_mem hc))
            obtain ⟨bk, hbk⟩ : ∃ bk, (d.row k)[c].blk = bk := ⟨_, rfl⟩
            have hen : encChu (d.row k)[c] = .int .i64 bk :: [s0, s1, s2, s3, s4, s5, s6, s7, s8, s9].flatMap encSlo := by unfold encChu; rw [hsl, hbk]
            have hcg := fun i hi => cells_get (d.row k) htk c hc i hi
            rw [hsl] at hcg
            (repeat (first | refine W_seq ?_))
            refine W_region rfl ?_
            refine WL_is (X_lss_t rfl rfl rfl (by omega)) rfl rfl rfl ?_
            (repeat (first | refine WL_nil ?_ | refine Then_normal ?_ | refine W_seq ?_ | refine W_skip ?_ | refine W_block ?_ | refine W_true rfl ?_))
            skip
            refine W_region rfl ?_
            refine WL_is (X_move rfl rfl) rfl rfl rfl ?_
            (refine WL_index_slN rfl rfl rfl rfl rfl (by assumption) (by omega) rfl rfl rfl ?_; intro p_ hp_)
            rw [hen] at hp_
            refine WL_is (X_loadA_at rfl rfl (by assumption) rfl rfl rfl) rfl rfl rfl ?_
            (refine WL_alloc rfl rfl rfl rfl rfl rfl ?_; intro b_)
            refine WL_is (X_assign rfl rfl) rfl rfl rfl ?_
            refine WL_store rfl rfl rfl (by exact idx0) rfl rfl rfl rfl rfl rfl rfl rfl rfl ?_
            (repeat (first | refine WL_nil ?_ | refine Then_normal ?_ | refine W_seq ?_))
            skip
            refine W_region rfl ?_
            refine WL_is (X_move rfl rfl) rfl rfl rfl ?_
            refine WL_is (X_fieldAddr rfl rfl rfl (by simp only [Nat.zero_add] <;> rfl)) rfl rfl rfl ?_
            refine WL_store rfl rfl rfl (by exact idx1) rfl rfl rfl rfl rfl rfl rfl rfl rfl ?_
            refine WL_is (X_fieldAddr rfl rfl rfl (by simp only [Nat.zero_add] <;> rfl)) rfl rfl rfl ?_
            refine WL_store rfl rfl rfl (by exact idx1) rfl rfl rfl rfl rfl rfl rfl rfl rfl ?_
            (repeat (first | refine WL_nil ?_ | refine Then_normal ?_ | refine W_seq ?_))
            skip
            refine W_region rfl ?_
            refine WL_is (X_fieldAddr rfl rfl rfl (by simp only [Nat.zero_add] <;> rfl)) rfl rfl rfl ?_
            refine WL_is (X_loadA rfl rfl (by exact idx0) rfl rfl rfl) rfl rfl rfl ?_
            refine WL_is (X_move rfl rfl) rfl rfl rfl ?_
            (repeat (first | refine WL_nil ?_ | refine Then_normal ?_ | refine W_block ?_))
            obtain ⟨sl, hsl2⟩ : ∃ sl, sl = [s0, s1, s2, s3, s4, s5, s6, s7, s8, s9] := ⟨_, rfl⟩
            have hl10 : sl.length = 10 := by rw [hsl2]; rfl
            rw [← hsl2] at hcg
            refine W_loop (X := Nat) (L := fun i => ⟨[(52, .int .i64 (i : Int)), (51, .agg (sl.flatMap encSlo).toArray), (42, .int .i64 (c : Int)), (41, .int .i64 ((d.row k).length : Int)), (40, .slice xa (d.row k).length xc), (2, .pointer (some ⟨b2, 0, none⟩)), (4, .pointer (some ⟨b4, 0, none⟩)), (10, .int .i64 (k : Int))], [], [blk b4 [.int .i64 (k : Int), .int .i64 (c : Int), .int .i64 (i : Int)] 32, blk b2 [x0, x1, x2, x3] 25], h⟩) (p := fun i => i ≤ 10 ∧ noneTo (d.row k) (c * 10 + i)) (μ := fun i => 10 - i) 0 ⟨by subst hsl2; exact (by repeat (first | exact SubE_nil | refine SubE_cons rfl ?_)), rfl, .skip _ (SubR.refl _), rfl⟩ ⟨Nat.zero_le _, hno⟩ ?_
            rintro i ⟨hi, hno⟩
            by_cases hi10 : i < 10
            · have ht3 := take3 sl i (by omega)
              have hce : (cellsR (d.row k))[c * 10 + i]? = some (sl[i]'(by omega)) := by rw [hcg i hi10]; exact List.getElem?_eq_getElem _
              (repeat (first | refine W_seq ?_))
              refine W_region rfl ?_
              refine WL_is (X_lss_t rfl rfl rfl (by omega)) rfl rfl rfl ?_
              (repeat (first | refine WL_nil ?_ | refine Then_normal ?_ | refine W_seq ?_ | refine W_skip ?_ | refine W_block ?_ | refine W_true rfl ?_))
              skip
              refine W_region rfl ?_
              refine WL_is (X_index_valA (sz := 3) (vs := encSlo (sl[i]'(by omega))) rfl rfl rfl rfl rfl rfl (by omega) (by omega) rfl (by simpa using ht3)) rfl rfl rfl ?_
              generalize sl[i]'(by omega) = x at hce ⊢
              unfold encSlo
              (refine WL_alloc rfl rfl rfl rfl rfl rfl ?_; intro b_)
              refine WL_store rfl rfl rfl (by exact idx0) rfl rfl rfl rfl rfl rfl rfl rfl rfl ?_
              (repeat (first | refine WL_nil ?_ | refine Then_normal ?_ | refine W_seq ?_))
              skip
              refine W_region rfl ?_
              refine WL_is (X_loadA rfl rfl (by exact idx0) rfl rfl rfl) rfl rfl rfl ?_
              refine WL_is (X_build rfl rfl rfl) rfl rfl rfl ?_
              by_cases hx : x = slo0
              · refine WL_is (X_eqA 8 heldOk guardOk rfl rfl rfl rfl rfl rfl (eqSlo_t hx)) rfl rfl rfl ?_
                (repeat (first | refine WL_nil ?_ | refine Then_normal ?_ | refine W_exit ?_ | refine Then_exit ?_ | refine inBlk_here ?_ | refine inBlk_out rfl ?_ | refine W_true rfl ?_))
                exact ⟨⟨c, i⟩, ⟨(by repeat (first | exact SubE_nil | refine SubE_cons rfl ?_)), rfl, .skip _ (SubR.refl _), rfl⟩, .inl ⟨emR_some hno (by rw [hce, hx]), hi10, hc⟩⟩
              · refine WL_is (X_eqA 8 heldOk guardOk rfl rfl rfl rfl rfl rfl (eqSlo_f hx)) rfl rfl rfl ?_
                (repeat (first | refine WL_nil ?_ | refine Then_normal ?_ | refine W_skip ?_ | refine W_false rfl ?_))
                skip
                refine W_region rfl ?_
                refine WL_is (X_fieldAddr rfl rfl rfl (by simp only [Nat.zero_add] <;> rfl)) rfl rfl rfl ?_
                refine WL_is (X_load1 rfl rfl (by exact idx1) rfl rfl) rfl rfl rfl ?_
                refine WL_is (X_addW rfl rfl rfl (by exact wrap_i64_in (by omega) (by omega))) rfl rfl rfl ?_
                refine WL_is (X_fieldAddr rfl rfl rfl (by simp only [Nat.zero_add] <;> rfl)) rfl rfl rfl ?_
                refine WL_store rfl rfl rfl (by exact idx1) rfl rfl rfl rfl rfl rfl rfl rfl rfl ?_
                (repeat (first | refine WL_nil ?_ | refine Then_normal ?_ | refine inBlk_normal ?_))
                skip
                refine W_region rfl ?_
                refine WL_is (X_addW rfl rfl rfl (by exact wrap_i64_in (by omega) (by omega))) rfl rfl rfl ?_
                refine WL_is (X_move rfl rfl) rfl rfl rfl ?_
                (repeat (first | refine WL_nil ?_ | refine Then_normal ?_))
                refine ⟨i + 1, ⟨(by repeat (first | exact SubE_nil | refine SubE_cons rfl ?_)), rfl, .skip _ (SubR.refl _), rfl⟩, ⟨by omega, fun j y hj hy => ?_⟩, by omega⟩
                rcases Nat.lt_or_ge j (c * 10 + i) with h' | h'
                · exact hno j y h' hy
                · have : j = c * 10 + i := by omega
                  subst this
                  rw [hce] at hy; cases hy; exact hx
            · have hie : i = 10 := by omega
              subst hie
              (repeat (first | refine W_seq ?_))
              refine W_region rfl ?_
              refine WL_is (X_lss_f rfl rfl rfl (by omega)) rfl rfl rfl ?_
              (repeat (first | refine WL_nil ?_ | refine Then_normal ?_ | refine W_seq ?_ | refine W_exit ?_ | refine Then_exit ?_ | refine inBlk_here ?_ | refine W_false rfl ?_))
              skip
              refine W_region rfl ?_
              refine WL_is (X_fieldAddr rfl rfl rfl (by simp only [Nat.zero_add] <;> rfl)) rfl rfl rfl ?_
              refine WL_is (X_load1 rfl rfl (by exact idx0) rfl rfl) rfl rfl rfl ?_
              refine WL_is (X_addW rfl rfl rfl (by exact wrap_i64_in (by omega) (by omega))) rfl rfl rfl ?_
              refine WL_is (X_fieldAddr rfl rfl rfl (by simp only [Nat.zero_add] <;> rfl)) rfl rfl rfl ?_
              refine WL_store rfl rfl rfl (by exact idx0) rfl rfl rfl rfl rfl rfl rfl rfl rfl ?_
              (repeat (first | refine WL_nil ?_ | refine Then_normal ?_ | refine inBlk_normal ?_))
              skip
              refine W_region rfl ?_
              refine WL_is (X_addW rfl rfl rfl (by exact wrap_i64_in (by omega) (by omega))) rfl rfl rfl ?_
              refine WL_is (X_move rfl rfl) rfl rfl rfl ?_
              (repeat (first | refine WL_nil ?_ | refine Then_normal ?_))
              exact ⟨⟨c + 1, 10⟩, ⟨(by repeat (first | exact SubE_nil | refine SubE_cons rfl ?_)), rfl, SubR.refl _, rfl⟩, ⟨hc, (by have := hno; rwa [show c * 10 + 10 = (c + 1) * 10 from by omega] at this), .inl rfl⟩, by dsimp only; omega⟩
          · have hcz : c = (d.row k).length := by omega
            (repeat (first | refine W_seq ?_))
            refine W_region rfl ?_
            refine WL_is (X_lss_f rfl rfl rfl (by omega)) rfl rfl rfl ?_
            (repeat (first | refine WL_nil ?_ | refine Then_normal ?_ | refine W_seq ?_ | refine W_exit ?_ | refine Then_exit ?_ | refine inBlk_here ?_ | refine W_false rfl ?_))
            exact ⟨⟨c, i0⟩, ⟨(by repeat (first | exact SubE_nil | refine SubE_cons rfl ?_)), rfl, SubR.refl _, rfl⟩, .inr ⟨emR_none htk (hcz ▸ hno), hcz, hi0⟩⟩
        · rintro ⟨c, i⟩ hx
          dsimp only at hx ⊢
          rcases hx with ⟨hem, hi, hc⟩ | ⟨hem, hc, hi⟩
          · have e1 : (c * 10 + i) / 10 = c := by omega
            have e2 : (c * 10 + i) % 10 = i := by omega
            rw [hem]
            dsimp only
            rw [e1, e2]
            have hi2 : ¬ (i : Int) = 10 := by omega
            have hc2 : ¬ (c : Int) = ((d.row k).length : Int) := by omega
            (repeat (first | refine W_seq ?_))
            refine W_region rfl ?_
            refine WL_is (X_fieldAddr rfl rfl rfl (by simp only [Nat.zero_add] <;> rfl)) rfl rfl rfl ?_
            refine WL_is (X_load1 rfl rfl (by exact idx0) rfl rfl) rfl rfl rfl ?_
            refine WL_is (X_eql_f rfl rfl rfl (by omega)) rfl rfl rfl ?_
            (repeat (first | refine WL_nil ?_ | refine Then_normal ?_ | refine W_seq ?_ | refine W_skip ?_ | refine W_false rfl ?_))
            skip
            refine W_draw0 7 rfl rfl rfl rfl ?_
            refine RG_val rfl rfl (fun _ => rfl) (fun _ => X_fieldAddr rfl rfl rfl (by simp only [Nat.zero_add] <;> rfl)) ?_
            refine RG_val rfl rfl (fun _ => rfl) (fun _ => X_load1 rfl rfl (by exact idx0) rfl rfl) ?_
            refine RG_val rfl rfl (fun _ => rfl) (fun _ => X_move rfl rfl) ?_
            refine RG_val rfl rfl (fun _ => rfl) (fun _ => X_fieldAddr rfl rfl rfl (by simp only [Nat.zero_add] <;> rfl)) ?_
            refine RG_val rfl rfl (fun _ => rfl) (fun _ => X_index_arr (sz := 1) rfl rfl rfl rfl rfl (by omega) (by omega) (by simp only [Nat.zero_add, Int.toNat_natCast, Nat.mul_one] <;> rfl)) ?_
            refine RG_val rfl rfl (fun _ => rfl) (fun _ => X_load1 rfl rfl (by exact idx1) rfl (by assumption)) ?_
            refine RG_val rfl rfl (fun _ => rfl) (fun _ => X_len_sl rfl rfl rfl (by assumption)) ?_
            refine RG_nil ?_
            refine RG_endv rfl (fun vs => by simp only [endE, List.cons_append, List.nil_append] <;> rfl) (fun vs => rfl) ?_
            refine WL_is (X_eql_f rfl rfl rfl (by omega)) rfl rfl rfl ?_
            refine WL_is (X_assign rfl rfl) rfl rfl rfl ?_
            (repeat (first | refine WL_nil ?_ | refine Then_normal ?_ | refine W_seq ?_))
            skip
            refine W_region rfl ?_
            refine WL_is (X_move rfl rfl) rfl rfl rfl ?_
            refine WL_is (X_move rfl rfl) rfl rfl rfl ?_
            refine WL_off rfl rfl rfl ?_
            refine WL_off rfl rfl rfl ?_
            refine WL_off rfl rfl rfl ?_
            refine WL_is (X_pick_f rfl rfl rfl) rfl rfl rfl ?_
            (repeat (first | refine WL_nil ?_ | refine Then_normal ?_ | refine W_seq ?_ | refine W_skip ?_ | refine W_false rfl ?_))
            skip
            refine W_region rfl ?_
            refine WL_is (X_loadA rfl rfl (by exact idx0) rfl rfl rfl) rfl rfl rfl ?_
            refine WL_is (X_move rfl rfl) rfl rfl rfl ?_
            refine WL_store rfl rfl rfl (by exact idx0) rfl rfl rfl rfl rfl rfl rfl rfl rfl ?_
            refine WL_is (X_assign rfl rfl) rfl rfl rfl ?_
            refine WL_is (X_assign rfl rfl) rfl rfl rfl ?_
            (repeat (first | refine WL_nil ?_ | refine Then_normal ?_ | refine W_ret ?_ | refine noG_ret ?_))
            refine Body_vals (.cons (.cellA rfl idx0 rfl rfl rfl) (.cons (.tmp rfl) (.cons (.tmp rfl) .nil))) rfl ?_
            exact UpdE.of (Upd.sub (SubR.none _)) rfl
          · rw [hem]
            dsimp only
            have hc2 : (c : Int) = ((d.row k).length : Int) := by omega
            by_cases hfu : (d.row k).length = 255
            · have hfi : (c : Int) = 255 := by omega
              rw [if_pos hfu]
              rcases hi with rfl | rfl
              · (repeat (first | refine W_seq ?_))
                refine W_region rfl ?_
                refine WL_is (X_fieldAddr rfl rfl rfl (by simp only [Nat.zero_add] <;> rfl)) rfl rfl rfl ?_
                refine WL_is (X_load1 rfl rfl (by exact idx0) rfl rfl) rfl rfl rfl ?_
                refine WL_is (X_eql_t rfl rfl rfl (by omega)) rfl rfl rfl ?_
                (repeat (first | refine WL_nil ?_ | refine Then_normal ?_ | refine W_true rfl ?_))
                skip
                refine W_region rfl ?_
                refine WL_is (X_fieldAddr rfl rfl rfl (by simp only [Nat.zero_add] <;> rfl)) rfl rfl rfl ?_
                refine WL_store rfl rfl rfl (by exact idx0) rfl rfl rfl rfl rfl rfl rfl rfl rfl ?_
                (repeat (first | refine WL_nil ?_ | refine Then_normal ?_ | refine W_seq ?_))
                skip
                refine W_draw0 7 rfl rfl rfl rfl ?_
                refine RG_val rfl rfl (fun _ => rfl) (fun _ => X_fieldAddr rfl rfl rfl (by simp only [Nat.zero_add] <;> rfl)) ?_
                refine RG_val rfl rfl (fun _ => rfl) (fun _ => X_load1 rfl rfl (by exact idx0) rfl rfl) ?_
                refine RG_val rfl rfl (fun _ => rfl) (fun _ => X_move rfl rfl) ?_
                refine RG_val rfl rfl (fun _ => rfl) (fun _ => X_fieldAddr rfl rfl rfl (by simp only [Nat.zero_add] <;> rfl)) ?_
                refine RG_val rfl rfl (fun _ => rfl) (fun _ => X_index_arr (sz := 1) rfl rfl rfl rfl rfl (by omega) (by omega) (by simp only [Nat.zero_add, Int.toNat_natCast, Nat.mul_one] <;> rfl)) ?_
                refine RG_val rfl rfl (fun _ => rfl) (fun _ => X_load1 rfl rfl (by exact idx1) rfl (by assumption)) ?_
                refine RG_val rfl rfl (fun _ => rfl) (fun _ => X_len_sl rfl rfl rfl (by assumption)) ?_
                refine RG_nil ?_
                refine RG_endv rfl (fun vs => by simp only [endE, List.cons_append, List.nil_append] <;> rfl) (fun vs => rfl) ?_
                refine WL_is (X_eql_t rfl rfl rfl (by omega)) rfl rfl rfl ?_
                refine WL_is (X_assign rfl rfl) rfl rfl rfl ?_
                (repeat (first | refine WL_nil ?_ | refine Then_normal ?_ | refine W_seq ?_))
                skip
                refine W_region rfl ?_
                refine WL_is (X_move rfl rfl) rfl rfl rfl ?_
                refine WL_is (X_move rfl rfl) rfl rfl rfl ?_
                refine WL_is (X_fieldAddr rfl rfl rfl (by simp only [Nat.zero_add] <;> rfl)) rfl rfl rfl ?_
                refine WL_is (X_load1 rfl rfl (by exact idx0) rfl rfl) rfl rfl rfl ?_
                refine WL_is (X_eql_t rfl rfl rfl (by omega)) rfl rfl rfl ?_
                refine WL_is (X_pick_t rfl rfl rfl) rfl rfl rfl ?_
                (repeat (first | refine WL_nil ?_ | refine Then_normal ?_ | refine W_seq ?_ | refine W_true rfl ?_))
                skip
                refine W_region rfl ?_
                refine WL_is (X_build rfl rfl rfl) rfl rfl rfl ?_
                refine WL_store rfl rfl rfl (by exact idx0) rfl rfl rfl rfl rfl rfl rfl rfl rfl ?_
                refine WL_is (X_assign rfl rfl) rfl rfl rfl ?_
                refine WL_is (X_assign rfl rfl) rfl rfl rfl ?_
                (repeat (first | refine WL_nil ?_ | refine Then_normal ?_ | refine W_ret ?_ | refine Then_ret ?_ | refine noG_ret ?_))
                refine Body_vals (.cons (.cellA rfl idx0 rfl rfl rfl) (.cons (.tmp rfl) (.cons (.tmp rfl) .nil))) rfl ?_
                exact UpdE.of (Upd.sub (SubR.none _)) rfl
              · (repeat (first | refine W_seq ?_))
                refine W_region rfl ?_
                refine WL_is (X_fieldAddr rfl rfl rfl (by simp only [Nat.zero_add] <;> rfl)) rfl rfl rfl ?_
                refine WL_is (X_load1 rfl rfl (by exact idx0) rfl rfl) rfl rfl rfl ?_
                refine WL_is (X_eql_f rfl rfl rfl (by omega)) rfl rfl rfl ?_
                (repeat (first | refine WL_nil ?_ | refine Then_normal ?_ | refine W_seq ?_ | refine W_skip ?_ | refine W_false rfl ?_))
                skip
                refine W_draw0 7 rfl rfl rfl rfl ?_
                refine RG_val rfl rfl (fun _ => rfl) (fun _ => X_fieldAddr rfl rfl rfl (by simp only [Nat.zero_add] <;> rfl)) ?_
                refine RG_val rfl rfl (fun _ => rfl) (fun _ => X_load1 rfl rfl (by exact idx0) rfl rfl) ?_
                refine RG_val rfl rfl (fun _ => rfl) (fun _ => X_move rfl rfl) ?_
                refine RG_val rfl rfl (fun _ => rfl) (fun _ => X_fieldAddr rfl rfl rfl (by simp only [Nat.zero_add] <;> rfl)) ?_
                refine RG_val rfl rfl (fun _ => rfl) (fun _ => X_index_arr (sz := 1) rfl rfl rfl rfl rfl (by omega) (by omega) (by simp only [Nat.zero_add, Int.toNat_natCast, Nat.mul_one] <;> rfl)) ?_
                refine RG_val rfl rfl (fun _ => rfl) (fun _ => X_load1 rfl rfl (by exact idx1) rfl (by assumption)) ?_
                refine RG_val rfl rfl (fun _ => rfl) (fun _ => X_len_sl rfl rfl rfl (by assumption)) ?_
                refine RG_nil ?_
                refine RG_endv rfl (fun vs => by simp only [endE, List.cons_append, List.nil_append] <;> rfl) (fun vs => rfl) ?_
                refine WL_is (X_eql_t rfl rfl rfl (by omega)) rfl rfl rfl ?_
                refine WL_is (X_assign rfl rfl) rfl rfl rfl ?_
                (repeat (first | refine WL_nil ?_ | refine Then_normal ?_ | refine W_seq ?_))
                skip
                refine W_region rfl ?_
                refine WL_is (X_move rfl rfl) rfl rfl rfl ?_
                refine WL_is (X_move rfl rfl) rfl rfl rfl ?_
                refine WL_is (X_fieldAddr rfl rfl rfl (by simp only [Nat.zero_add] <;> rfl)) rfl rfl rfl ?_
                refine WL_is (X_load1 rfl rfl (by exact idx0) rfl rfl) rfl rfl rfl ?_
                refine WL_is (X_eql_t rfl rfl rfl (by omega)) rfl rfl rfl ?_
                refine WL_is (X_pick_t rfl rfl rfl) rfl rfl rfl ?_
                (repeat (first | refine WL_nil ?_ | refine Then_normal ?_ | refine W_seq ?_ | refine W_true rfl ?_))
                skip
                refine W_region rfl ?_
                refine WL_is (X_build rfl rfl rfl) rfl rfl rfl ?_
                refine WL_store rfl rfl rfl (by exact idx0) rfl rfl rfl rfl rfl rfl rfl rfl rfl ?_
                refine WL_is (X_assign rfl rfl) rfl rfl rfl ?_
                refine WL_is (X_assign rfl rfl) rfl rfl rfl ?_
                (repeat (first | refine WL_nil ?_ | refine Then_normal ?_ | refine W_ret ?_ | refine Then_ret ?_ | refine noG_ret ?_))
                refine Body_vals (.cons (.cellA rfl idx0 rfl rfl rfl) (.cons (.tmp rfl) (.cons (.tmp rfl) .nil))) rfl ?_
                exact UpdE.of (Upd.sub (SubR.none _)) rfl
            · have hfi : ¬ (c : Int) = 255 := by omega
              rw [if_neg hfu]
              rw [← hc]
              rcases hi with rfl | rfl
              · (repeat (first | refine W_seq ?_))
                refine W_region rfl ?_
                refine WL_is (X_fieldAddr rfl rfl rfl (by simp only [Nat.zero_add] <;> rfl)) rfl rfl rfl ?_
                refine WL_is (X_load1 rfl rfl (by exact idx0) rfl rfl) rfl rfl rfl ?_
                refine WL_is (X_eql_t rfl rfl rfl (by omega)) rfl rfl rfl ?_
                (repeat (first | refine WL_nil ?_ | refine Then_normal ?_ | refine W_true rfl ?_))
                skip
                refine W_region rfl ?_
                refine WL_is (X_fieldAddr rfl rfl rfl (by simp only [Nat.zero_add] <;> rfl)) rfl rfl rfl ?_
                refine WL_store rfl rfl rfl (by exact idx0) rfl rfl rfl rfl rfl rfl rfl rfl rfl ?_
                (repeat (first | refine WL_nil ?_ | refine Then_normal ?_ | refine W_seq ?_))
                skip
                refine W_draw0 7 rfl rfl rfl rfl ?_
                refine RG_val rfl rfl (fun _ => rfl) (fun _ => X_fieldAddr rfl rfl rfl (by simp only [Nat.zero_add] <;> rfl)) ?_
                refine RG_val rfl rfl (fun _ => rfl) (fun _ => X_load1 rfl rfl (by exact idx0) rfl rfl) ?_
                refine RG_val rfl rfl (fun _ => rfl) (fun _ => X_move rfl rfl) ?_
                refine RG_val rfl rfl (fun _ => rfl) (fun _ => X_fieldAddr rfl rfl rfl (by simp only [Nat.zero_add] <;> rfl)) ?_
                refine RG_val rfl rfl (fun _ => rfl) (fun _ => X_index_arr (sz := 1) rfl rfl rfl rfl rfl (by omega) (by omega) (by simp only [Nat.zero_add, Int.toNat_natCast, Nat.mul_one] <;> rfl)) ?_
                refine RG_val rfl rfl (fun _ => rfl) (fun _ => X_load1 rfl rfl (by exact idx1) rfl (by assumption)) ?_
                refine RG_val rfl rfl (fun _ => rfl) (fun _ => X_len_sl rfl rfl rfl (by assumption)) ?_
                refine RG_nil ?_
                refine RG_endv rfl (fun vs => by simp only [endE, List.cons_append, List.nil_append] <;> rfl) (fun vs => rfl) ?_
                refine WL_is (X_eql_t rfl rfl rfl (by omega)) rfl rfl rfl ?_
                refine WL_is (X_assign rfl rfl) rfl rfl rfl ?_
                (repeat (first | refine WL_nil ?_ | refine Then_normal ?_ | refine W_seq ?_))
                skip
                refine W_region rfl ?_
                refine WL_is (X_move rfl rfl) rfl rfl rfl ?_
                refine WL_is (X_move rfl rfl) rfl rfl rfl ?_
                refine WL_is (X_fieldAddr rfl rfl rfl (by simp only [Nat.zero_add] <;> rfl)) rfl rfl rfl ?_
                refine WL_is (X_load1 rfl rfl (by exact idx0) rfl rfl) rfl rfl rfl ?_
                refine WL_is (X_eql_f rfl rfl rfl (by omega)) rfl rfl rfl ?_
                refine WL_is (X_pick_t rfl rfl rfl) rfl rfl rfl ?_
                (repeat (first | refine WL_nil ?_ | refine Then_normal ?_ | refine W_seq ?_ | refine W_skip ?_ | refine W_false rfl ?_))
                skip
                refine W_region rfl ?_
                refine WL_is (X_loadA rfl rfl (by exact idx0) rfl rfl rfl) rfl rfl rfl ?_
                refine WL_is (X_move rfl rfl) rfl rfl rfl ?_
                refine WL_store rfl rfl rfl (by exact idx0) rfl rfl rfl rfl rfl rfl rfl rfl rfl ?_
                refine WL_is (X_assign rfl rfl) rfl rfl rfl ?_
                refine WL_is (X_assign rfl rfl) rfl rfl rfl ?_
                (repeat (first | refine WL_nil ?_ | refine Then_normal ?_ | refine W_ret ?_ | refine noG_ret ?_))
                refine Body_vals (.cons (.cellA rfl idx0 rfl rfl rfl) (.cons (.tmp rfl) (.cons (.tmp rfl) .nil))) rfl ?_
                exact UpdE.of (Upd.sub (SubR.none _)) rfl
              · (repeat (first | refine W_seq ?_))
                refine W_region rfl ?_
                refine WL_is (X_fieldAddr rfl rfl rfl (by simp only [Nat.zero_add] <;> rfl)) rfl rfl rfl ?_
                refine WL_is (X_load1 rfl rfl (by exact idx0) rfl rfl) rfl rfl rfl ?_
                refine WL_is (X_eql_f rfl rfl rfl (by omega)) rfl rfl rfl ?_
                (repeat (first | refine WL_nil ?_ | refine Then_normal ?_ | refine W_seq ?_ | refine W_skip ?_ | refine W_false rfl ?_))
                skip
                refine W_draw0 7 rfl rfl rfl rfl ?_
                refine RG_val rfl rfl (fun _ => rfl) (fun _ => X_fieldAddr rfl rfl rfl (by simp only [Nat.zero_add] <;> rfl)) ?_
                refine RG_val rfl rfl (fun _ => rfl) (fun _ => X_load1 rfl rfl (by exact idx0) rfl rfl) ?_
                refine RG_val rfl rfl (fun _ => rfl) (fun _ => X_move rfl rfl) ?_
                refine RG_val rfl rfl (fun _ => rfl) (fun _ => X_fieldAddr rfl rfl rfl (by simp only [Nat.zero_add] <;> rfl)) ?_
                refine RG_val rfl rfl (fun _ => rfl) (fun _ => X_index_arr (sz := 1) rfl rfl rfl rfl rfl (by omega) (by omega) (by simp only [Nat.zero_add, Int.toNat_natCast, Nat.mul_one] <;> rfl)) ?_
                refine RG_val rfl rfl (fun _ => rfl) (fun _ => X_load1 rfl rfl (by exact idx1) rfl (by assumption)) ?_
                refine RG_val rfl rfl (fun _ => rfl) (fun _ => X_len_sl rfl rfl rfl (by assumption)) ?_
                refine RG_nil ?_
                refine RG_endv rfl (fun vs => by simp only [endE, List.cons_append, List.nil_append] <;> rfl) (fun vs => rfl) ?_
                refine WL_is (X_eql_t rfl rfl rfl (by omega)) rfl rfl rfl ?_
                refine WL_is (X_assign rfl rfl) rfl rfl rfl ?_
                (repeat (first | refine WL_nil ?_ | refine Then_normal ?_ | refine W_seq ?_))
                skip
                refine W_region rfl ?_
                refine WL_is (X_move rfl rfl) rfl rfl rfl ?_
                refine WL_is (X_move rfl rfl) rfl rfl rfl ?_
                refine WL_is (X_fieldAddr rfl rfl rfl (by simp only [Nat.zero_add] <;> rfl)) rfl rfl rfl ?_
                refine WL_is (X_load1 rfl rfl (by exact idx0) rfl rfl) rfl rfl rfl ?_
                refine WL_is (X_eql_f rfl rfl rfl (by omega)) rfl rfl rfl ?_
                refine WL_is (X_pick_t rfl rfl rfl) rfl rfl rfl ?_
                (repeat (first | refine WL_nil ?_ | refine Then_normal ?_ | refine W_seq ?_ | refine W_skip ?_ | refine W_false rfl ?_))
                skip
                refine W_region rfl ?_
                refine WL_is (X_loadA rfl rfl (by exact idx0) rfl rfl rfl) rfl rfl rfl ?_
                refine WL_is (X_move rfl rfl) rfl rfl rfl ?_
                refine WL_store rfl rfl rfl (by exact idx0) rfl rfl rfl rfl rfl rfl rfl rfl rfl ?_
                refine WL_is (X_assign rfl rfl) rfl rfl rfl ?_
                refine WL_is (X_assign rfl rfl) rfl rfl rfl ?_
                (repeat (first | refine WL_nil ?_ | refine Then_normal ?_ | refine W_ret ?_ | refine noG_ret ?_))
                refine Body_vals (.cons (.cellA rfl idx0 rfl rfl rfl) (.cons (.tmp rfl) (.cons (.tmp rfl) .nil))) rfl ?_
                exact UpdE.of (Upd.sub (SubR.none _)) rfl
    · rw [hr2 (.inr hce)]
      skip
      refine W_region rfl ?_
      refine WL_is (X_loadA rfl rfl (by exact idx1) rfl rfl rfl) rfl rfl rfl ?_
      refine WL_is (X_move rfl rfl) rfl rfl rfl ?_
      refine WL_is (X_callv rfl rfl rfl Try.func11 rfl (by assumption)) rfl rfl rfl ?_
      refine WL_is (X_move rfl rfl) rfl rfl rfl ?_
      refine WL_is (X_extract rfl rfl rfl) rfl rfl rfl ?_
      refine WL_is (X_extract rfl rfl rfl) rfl rfl rfl ?_
      refine WL_is (X_extract rfl rfl rfl) rfl rfl rfl ?_
      (refine WL_alloc rfl rfl rfl rfl rfl rfl ?_; intro b_)
      (refine WL_alloc rfl rfl rfl rfl rfl rfl ?_; intro b_)
      refine WL_store rfl rfl rfl (by exact idx1) rfl rfl rfl rfl rfl rfl rfl rfl rfl ?_
      refine WL_store rfl rfl rfl (by exact idx0) rfl rfl rfl rfl rfl rfl rfl rfl rfl ?_
      refine WL_is (X_assign rfl rfl) rfl rfl rfl ?_
      (repeat (first | refine WL_nil ?_ | refine Then_normal ?_ | refine W_seq ?_ | refine W_block ?_))
      skip
      refine W_region rfl ?_
      refine WL_is (X_move rfl rfl) rfl rfl rfl ?_
      refine WL_is (X_eql_f rfl rfl rfl (by omega)) rfl rfl rfl ?_
      refine WL_is (X_assign rfl rfl) rfl rfl rfl ?_
      (repeat (first | refine WL_nil ?_ | refine Then_normal ?_ | refine W_false rfl ?_))
      skip
      refine W_region rfl ?_
      refine WL_is (X_move rfl rfl) rfl rfl rfl ?_
      refine WL_is (X_callv rfl rfl rfl Try.func32 rfl (by assumption)) rfl rfl rfl ?_
      refine WL_is (X_neq_t rfl rfl rfl (by omega)) rfl rfl rfl ?_
      refine WL_is (X_assign rfl rfl) rfl rfl rfl ?_
      (repeat (first | refine WL_nil ?_ | refine Then_normal ?_ | refine W_seq ?_ | refine W_true rfl ?_))
      skip
      refine W_region rfl ?_
      refine WL_is (X_loadA rfl rfl (by exact idx2) rfl rfl rfl) rfl rfl rfl ?_
      refine WL_store rfl rfl rfl (by exact idx2) rfl rfl rfl rfl rfl rfl rfl rfl rfl ?_
      refine WL_is (X_assign rfl rfl) rfl rfl rfl ?_
      refine WL_is (X_assign rfl rfl) rfl rfl rfl ?_
      (repeat (first | refine WL_nil ?_ | refine Then_normal ?_ | refine W_ret ?_ | refine Then_ret ?_ | refine inBlk_ret ?_ | refine noG_ret ?_))
      refine Body_vals (.cons (.cellA rfl idx2 rfl rfl rfl) (.cons (.tmp rfl) (.cons (.tmp rfl) .nil))) rfl ?_
      exact UpdE.of (Upd.sub (SubR.none _)) rfl
end Go.Proofs.Ytgpanbmjmpondaa
