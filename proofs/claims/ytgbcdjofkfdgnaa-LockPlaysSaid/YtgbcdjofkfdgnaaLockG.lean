/- Locks: a new table; the chapter's examples; what no table answers. -/
import Derived.Test.YtgbcdjofkfdgnaaLockF
namespace Go.Proofs.Ytgbcdjofkfdgnaa
open Go Go.Par PH
theorem zip_nil : ∀ m : Nat, stars (zipR (List.replicate m (.slice none 0 0)) (List.replicate m [])) none_
  | 0 => rfl
  | m + 1 => ⟨none_, none_, (un_none_right _).symm, dj_none_right _, ⟨rfl, .inl ⟨rfl, rfl, rfl⟩⟩, zip_nil m⟩
theorem flat_rep (v : Value) : ∀ m : Nat, (List.replicate m [v]).flatten = List.replicate m v
  | 0 => rfl
  | m + 1 => by rw [List.replicate_succ, List.flatten_cons, flat_rep v m, List.replicate_succ]; rfl
theorem flatMapV (l : List Value) : l.flatMap encV = l := by
  induction l with
  | nil => rfl
  | cons v l ih => rw [List.flatMap_cons, ih]; rfl
theorem row_rep (v : Value) (m : Nat) : Par.row v 40 1 m ((List.replicate m (Value.slice none 0 0)).flatMap encV) = rowL encV v 40 1 (List.replicate m (Value.slice none 0 0)) := by unfold rowL; rw [List.length_replicate]
attribute [local irreducible] W WL Does Exec Body Then inBlk RG WR row obj pblk
set_option maxHeartbeats 1000000 in
theorem new_fn (h : PH) (m : Nat) (procs : Int) (h1 : 1 ≤ m) (h2 : m ≤ 128) (h3 : 1 ≤ procs) (h4 : procs ≤ 16) : Does Try.prog 9 [.int .i64 (m : Int), .int .i64 procs] [] h
    (Ret fun r R' _ => ∃ b, r = .tuple #[.pointer (some ⟨b, 0, none⟩), .int .i64 0] ∧ R' = [tabL 49 b (List.replicate m []) procs]) := by
  refine Does_of_W Try.func9 rfl (n := 25) rfl rfl (by simp only [argE, Nat.reduceAdd] <;> rfl) ?_
  (repeat (first | refine W_seq ?_))
  skip
  refine W_region rfl ?_
  refine WL_is (X_assign rfl rfl) rfl rfl rfl ?_
  refine WL_is (X_assign rfl rfl) rfl rfl rfl ?_
  (repeat (first | refine WL_nil ?_ | refine Then_normal ?_ | refine W_seq ?_))
  skip
  refine W_region rfl ?_
  refine WL_is (X_move rfl rfl) rfl rfl rfl ?_
  refine WL_is (X_lss_f rfl rfl rfl (by omega)) rfl rfl rfl ?_
  refine WL_is (X_move rfl rfl) rfl rfl rfl ?_
  refine WL_is (X_move rfl rfl) rfl rfl rfl ?_
  refine WL_is (X_gtr_f rfl rfl rfl (by omega)) rfl rfl rfl ?_
  refine WL_is (X_pick_f rfl rfl rfl) rfl rfl rfl ?_
  refine WL_is (X_move rfl rfl) rfl rfl rfl ?_
  refine WL_is (X_move rfl rfl) rfl rfl rfl ?_
  refine WL_is (X_lss_f rfl rfl rfl (by omega)) rfl rfl rfl ?_
  refine WL_is (X_pick_f rfl rfl rfl) rfl rfl rfl ?_
  refine WL_is (X_move rfl rfl) rfl rfl rfl ?_
  refine WL_is (X_move rfl rfl) rfl rfl rfl ?_
  refine WL_is (X_gtr_f rfl rfl rfl (by omega)) rfl rfl rfl ?_
  refine WL_is (X_pick_f rfl rfl rfl) rfl rfl rfl ?_
  (repeat (first | refine WL_nil ?_ | refine Then_normal ?_ | refine W_seq ?_ | refine W_skip ?_ | refine W_false rfl ?_))
  skip
  refine W_region rfl ?_
  refine WL_is (X_move rfl rfl) rfl rfl rfl ?_
  refine WL_make (m := m) (by_ := 24) (sz := 1) rfl rfl rfl rfl rfl rfl rfl rfl rfl (by omega) (by omega) rfl rfl rfl ?_
  intro rb
  rw [flat_rep]
  refine WL_is (X_move rfl rfl) rfl rfl rfl ?_
  refine WL_is (X_build rfl rfl rfl) rfl rfl rfl ?_
  (refine WL_box rfl rfl rfl rfl rfl rfl ?_; intro b_)
  refine WL_is (X_assign rfl rfl) rfl rfl rfl ?_
  refine WL_is (X_assign rfl rfl) rfl rfl rfl ?_
  (repeat (first | refine WL_nil ?_ | refine Then_normal ?_ | refine W_ret ?_))
  refine Body_vals (.cons (.tmp rfl) (.cons (.tmp rfl) .nil)) rfl ?_
  refine (UpdE.of (A := fun R' _ => R' = _) (Upd.blkrow (cap := m) (m := m) (sz := 1) (xs := (List.replicate m (Value.slice none 0 0)).flatMap encV) 1 rfl (Nat.le_refl _) (by simp) ?_) rfl).then ?_
  · rw [Nat.mul_one, List.take_of_length_le (by simp), flatMapV]
  · rintro _ h' - rfl
    rw [row_rep]
    refine UpdE.of (Upd.wkn (R' := [tabL 49 b_ (List.replicate m []) procs]) ?_) ⟨b_, rfl, rfl⟩
    intro g hg
    have hz : stars [zipG (List.replicate m (.slice none 0 0)) (List.replicate m [])] none_ := ⟨none_, none_, (un_none_right _).symm, dj_none_right _, zip_nil m, rfl⟩
    have h2 := stars_app hg hz (dj_none_right _)
    rw [un_none_right] at h2
    exact ⟨g, none_, (un_none_right _).symm, dj_none_right _, ⟨_, List.replicate m (.slice none 0 0), by simp, h2⟩, rfl⟩
abbrev q0 : List (List Int) := [[], [], [], []]
theorem q0_ok : QOk q0 := ⟨by decide, by decide⟩
abbrev q1 : List (List Int) := [[], [0], [], []]
theorem q1_ok : QOk q1 := ⟨by decide, by decide⟩
abbrev q2 : List (List Int) := [[1], [0], [], []]
theorem q2_ok : QOk q2 := ⟨by decide, by decide⟩
abbrev q3 : List (List Int) := [[1], [0, 1], [], []]
theorem q3_ok : QOk q3 := ⟨by decide, by decide⟩
abbrev q4 : List (List Int) := [[1], [1], [], []]
theorem q4_ok : QOk q4 := ⟨by decide, by decide⟩
abbrev q5 : List (List Int) := [[1], [1], [1], []]
theorem q5_ok : QOk q5 := ⟨by decide, by decide⟩
theorem w1 (h : PH) (b : Nat) : Does Try.prog 13 [.pointer (some ⟨b, 0, none⟩), .int .i64 0, .int .i64 1] [tabL 49 b q0 3] h (Ret fun r R' _ => r = .tuple #[.bool true, .int .i64 0] ∧ R' = [tabL 49 b q1 3]) := by
  have hV : wantV q0 3 0 1 = .tuple #[.bool true, .int .i64 0] := by kernel_rfl
  have hQ : wantQ q0 3 0 1 = q1 := by kernel_rfl
  have := want_fn h b q0 3 0 1 q0_ok
  rw [hV, hQ] at this
  exact this
theorem w2 (h : PH) (b : Nat) : Does Try.prog 13 [.pointer (some ⟨b, 0, none⟩), .int .i64 1, .int .i64 0] [tabL 49 b q1 3] h (Ret fun r R' _ => r = .tuple #[.bool true, .int .i64 0] ∧ R' = [tabL 49 b q2 3]) := by
  have hV : wantV q1 3 1 0 = .tuple #[.bool true, .int .i64 0] := by kernel_rfl
  have hQ : wantQ q1 3 1 0 = q2 := by kernel_rfl
  have := want_fn h b q1 3 1 0 q1_ok
  rw [hV, hQ] at this
  exact this
theorem w3 (h : PH) (b : Nat) : Does Try.prog 13 [.pointer (some ⟨b, 0, none⟩), .int .i64 1, .int .i64 1] [tabL 49 b q2 3] h (Ret fun r R' _ => r = .tuple #[.bool false, .int .i64 0] ∧ R' = [tabL 49 b q3 3]) := by
  have hV : wantV q2 3 1 1 = .tuple #[.bool false, .int .i64 0] := by kernel_rfl
  have hQ : wantQ q2 3 1 1 = q3 := by kernel_rfl
  have := want_fn h b q2 3 1 1 q2_ok
  rw [hV, hQ] at this
  exact this
theorem w4 (h : PH) (b : Nat) : Does Try.prog 13 [.pointer (some ⟨b, 0, none⟩), .int .i64 0, .int .i64 0] [tabL 49 b q3 3] h (Ret fun r R' _ => r = .tuple #[.bool false, .int .i64 6] ∧ R' = [tabL 49 b q3 3]) := by
  have hV : wantV q3 3 0 0 = .tuple #[.bool false, .int .i64 6] := by kernel_rfl
  have hQ : wantQ q3 3 0 0 = q3 := by kernel_rfl
  have := want_fn h b q3 3 0 0 q3_ok
  rw [hV, hQ] at this
  exact this
theorem w5 (h : PH) (b : Nat) : Does Try.prog 13 [.pointer (some ⟨b, 0, none⟩), .int .i64 1, .int .i64 2] [tabL 49 b q3 3] h (Ret fun r R' _ => r = .tuple #[.bool false, .int .i64 6] ∧ R' = [tabL 49 b q3 3]) := by
  have hV : wantV q3 3 1 2 = .tuple #[.bool false, .int .i64 6] := by kernel_rfl
  have hQ : wantQ q3 3 1 2 = q3 := by kernel_rfl
  have := want_fn h b q3 3 1 2 q3_ok
  rw [hV, hQ] at this
  exact this
theorem w6 (h : PH) (b : Nat) : Does Try.prog 13 [.pointer (some ⟨b, 0, none⟩), .int .i64 1, .int .i64 2] [tabL 49 b q4 3] h (Ret fun r R' _ => r = .tuple #[.bool true, .int .i64 0] ∧ R' = [tabL 49 b q5 3]) := by
  have hV : wantV q4 3 1 2 = .tuple #[.bool true, .int .i64 0] := by kernel_rfl
  have hQ : wantQ q4 3 1 2 = q5 := by kernel_rfl
  have := want_fn h b q4 3 1 2 q4_ok
  rw [hV, hQ] at this
  exact this
set_option maxHeartbeats 400000 in
theorem same15_fn (h : PH) (l m : List Int) (v u : Value) (hv : Sl encI 1 h v l) (hu : Sl encI 1 h u m) (hl : l.length ≤ 1000000) (hm : m.length ≤ 1000000) :
    Does Try.prog 21 [v, u] [] h (Ret fun r _ _ => r = .bool (decide (l = m))) := by
  refine Does_of_W Try.func21 rfl (n := 26) rfl rfl (by simp only [argE, Nat.reduceAdd] <;> rfl) ?_
  by_cases hlen : l.length = m.length
  · (repeat (first | refine W_seq ?_))
    refine W_region rfl ?_
    refine WL_is (X_assign rfl rfl) rfl rfl rfl ?_
    (repeat (first | refine WL_nil ?_ | refine Then_normal ?_ | refine W_seq ?_))
    skip
    refine W_region rfl ?_
    refine WL_is (X_move rfl rfl) rfl rfl rfl ?_
    refine WL_is (X_len_sl rfl rfl rfl (by assumption)) rfl rfl rfl ?_
    refine WL_is (X_move rfl rfl) rfl rfl rfl ?_
    refine WL_is (X_len_sl rfl rfl rfl (by assumption)) rfl rfl rfl ?_
    refine WL_is (X_neq_f rfl rfl rfl (by omega)) rfl rfl rfl ?_
    (repeat (first | refine WL_nil ?_ | refine Then_normal ?_ | refine W_seq ?_ | refine W_skip ?_ | refine W_false rfl ?_))
    skip
    refine W_region rfl ?_
    refine WL_is (X_assign rfl rfl) rfl rfl rfl ?_
    (repeat (first | refine WL_nil ?_ | refine Then_normal ?_ | refine W_block ?_))
    refine W_loop (X := Nat) (L := fun k => ⟨[(5, .int .i64 (k : Int)), (0, v), (1, u)], [], [], h⟩) (p := fun k => k ≤ l.length ∧ ∀ j (hj : j < k) (hj' : j < l.length), l[j] = m[j]'(by omega)) (μ := fun k => l.length - k) 0 ⟨(by repeat (first | exact SubE_nil | refine SubE_cons rfl ?_)), rfl, SubR.refl _, rfl⟩ ⟨Nat.zero_le _, fun j hj => by omega⟩ ?_
    rintro k ⟨hk, hgood⟩
    by_cases hlt : k < l.length
    · have hlt' : k < m.length := by omega
      (repeat (first | refine W_seq ?_))
      refine W_region rfl ?_
      refine WL_is (X_move rfl rfl) rfl rfl rfl ?_
      refine WL_is (X_move rfl rfl) rfl rfl rfl ?_
      refine WL_is (X_len_sl rfl rfl rfl (by assumption)) rfl rfl rfl ?_
      refine WL_is (X_lss_t rfl rfl rfl (by omega)) rfl rfl rfl ?_
      (repeat (first | refine WL_nil ?_ | refine Then_normal ?_ | refine W_seq ?_ | refine W_skip ?_ | refine W_block ?_ | refine W_true rfl ?_))
      by_cases heq : l[k] = m[k]
      · skip
        refine W_draw0 8 rfl rfl rfl rfl ?_
        refine RG_val rfl rfl (fun _ => rfl) (fun _ => X_move rfl rfl) ?_
        refine RG_val rfl rfl (fun _ => rfl) (fun _ => X_move rfl rfl) ?_
        (refine RG_index_slN rfl rfl rfl (fun _ => rfl) (fun _ => rfl) (by assumption) (by omega) rfl rfl (fun _ => rfl) ?_; intro p_ hp_)
        refine RG_val rfl rfl (fun _ => rfl) (fun _ => X_load1_at rfl rfl (by assumption) rfl rfl) ?_
        refine RG_val rfl rfl (fun _ => rfl) (fun _ => X_move rfl rfl) ?_
        refine RG_val rfl rfl (fun _ => rfl) (fun _ => X_move rfl rfl) ?_
        (refine RG_index_slN rfl rfl rfl (fun _ => rfl) (fun _ => rfl) (by assumption) (by omega) rfl rfl (fun _ => rfl) ?_; intro p_ hp_)
        refine RG_val rfl rfl (fun _ => rfl) (fun _ => X_load1_at rfl rfl (by assumption) rfl rfl) ?_
        refine RG_nil ?_
        refine RG_endv rfl (fun vs => by simp only [endE, List.cons_append, List.nil_append] <;> rfl) (fun vs => rfl) ?_
        refine WL_is (X_neq_f rfl rfl rfl (by omega)) rfl rfl rfl ?_
        (repeat (first | refine WL_nil ?_ | refine Then_normal ?_ | refine W_skip ?_ | refine inBlk_normal ?_ | refine W_false rfl ?_))
        skip
        refine W_region rfl ?_
        refine WL_is (X_move rfl rfl) rfl rfl rfl ?_
        refine WL_is (X_addW rfl rfl rfl (by exact wrap_i64_in (by omega) (by omega))) rfl rfl rfl ?_
        refine WL_is (X_assign rfl rfl) rfl rfl rfl ?_
        (repeat (first | refine WL_nil ?_ | refine Then_normal ?_))
        refine ⟨k + 1, ⟨(by repeat (first | exact SubE_nil | refine SubE_cons rfl ?_)), rfl, SubR.refl _, rfl⟩, ⟨by omega, fun j hj hj' => ?_⟩, by omega⟩
        rcases Nat.lt_or_ge j k with hj2 | hj2
        · exact hgood j hj2 hj'
        · have : j = k := by omega
          subst this; exact heq
      · skip
        refine W_draw0 8 rfl rfl rfl rfl ?_
        refine RG_val rfl rfl (fun _ => rfl) (fun _ => X_move rfl rfl) ?_
        refine RG_val rfl rfl (fun _ => rfl) (fun _ => X_move rfl rfl) ?_
        (refine RG_index_slN rfl rfl rfl (fun _ => rfl) (fun _ => rfl) (by assumption) (by omega) rfl rfl (fun _ => rfl) ?_; intro p_ hp_)
        refine RG_val rfl rfl (fun _ => rfl) (fun _ => X_load1_at rfl rfl (by assumption) rfl rfl) ?_
        refine RG_val rfl rfl (fun _ => rfl) (fun _ => X_move rfl rfl) ?_
        refine RG_val rfl rfl (fun _ => rfl) (fun _ => X_move rfl rfl) ?_
        (refine RG_index_slN rfl rfl rfl (fun _ => rfl) (fun _ => rfl) (by assumption) (by omega) rfl rfl (fun _ => rfl) ?_; intro p_ hp_)
        refine RG_val rfl rfl (fun _ => rfl) (fun _ => X_load1_at rfl rfl (by assumption) rfl rfl) ?_
        refine RG_nil ?_
        refine RG_endv rfl (fun vs => by simp only [endE, List.cons_append, List.nil_append] <;> rfl) (fun vs => rfl) ?_
        refine WL_is (X_neq_t rfl rfl rfl (by omega)) rfl rfl rfl ?_
        (repeat (first | refine WL_nil ?_ | refine Then_normal ?_ | refine W_seq ?_ | refine W_true rfl ?_))
        skip
        refine W_region rfl ?_
        refine WL_is (X_assign rfl rfl) rfl rfl rfl ?_
        (repeat (first | refine WL_nil ?_ | refine Then_normal ?_ | refine W_ret ?_ | refine Then_ret ?_ | refine inBlk_ret ?_))
        refine Body_end rfl rfl rfl (SubR.none _) ?_
        rw [decide_eq_false]; intro hc; subst hc; exact heq rfl
    · (repeat (first | refine W_seq ?_))
      refine W_region rfl ?_
      refine WL_is (X_move rfl rfl) rfl rfl rfl ?_
      refine WL_is (X_move rfl rfl) rfl rfl rfl ?_
      refine WL_is (X_len_sl rfl rfl rfl (by assumption)) rfl rfl rfl ?_
      refine WL_is (X_lss_f rfl rfl rfl (by omega)) rfl rfl rfl ?_
      (repeat (first | refine WL_nil ?_ | refine Then_normal ?_ | refine W_seq ?_ | refine W_exit ?_ | refine Then_exit ?_ | refine inBlk_here ?_ | refine W_false rfl ?_))
      skip
      refine W_region rfl ?_
      refine WL_is (X_assign rfl rfl) rfl rfl rfl ?_
      (repeat (first | refine WL_nil ?_ | refine Then_normal ?_ | refine W_ret ?_))
      refine Body_end rfl rfl rfl (SubR.none _) ?_
      have hkl : k = l.length := by omega
      subst hkl
      rw [decide_eq_true (List.ext_getElem hlen (fun i hi _ => hgood i hi hi))]
  · (repeat (first | refine W_seq ?_))
    refine W_region rfl ?_
    refine WL_is (X_assign rfl rfl) rfl rfl rfl ?_
    (repeat (first | refine WL_nil ?_ | refine Then_normal ?_ | refine W_seq ?_))
    skip
    refine W_region rfl ?_
    refine WL_is (X_move rfl rfl) rfl rfl rfl ?_
    refine WL_is (X_len_sl rfl rfl rfl (by assumption)) rfl rfl rfl ?_
    refine WL_is (X_move rfl rfl) rfl rfl rfl ?_
    refine WL_is (X_len_sl rfl rfl rfl (by assumption)) rfl rfl rfl ?_
    refine WL_is (X_neq_t rfl rfl rfl (by omega)) rfl rfl rfl ?_
    (repeat (first | refine WL_nil ?_ | refine Then_normal ?_ | refine W_seq ?_ | refine W_true rfl ?_))
    skip
    refine W_region rfl ?_
    refine WL_is (X_assign rfl rfl) rfl rfl rfl ?_
    (repeat (first | refine WL_nil ?_ | refine Then_normal ?_ | refine W_ret ?_ | refine Then_ret ?_))
    refine Body_end rfl rfl rfl (SubR.none _) ?_
    rw [decide_eq_false]; intro hc; subst hc; exact hlen rfl
theorem f1 (h : PH) (b : Nat) : Does Try.prog 11 [.pointer (some ⟨b, 0, none⟩), .int .i64 0] [tabL 49 b q3 3] h (Ret fun r R' _ => r = .int .i64 0 ∧ R' = [tabL 49 b q4 3]) := by
  have hV : mayE 3 0 = 0 := by kernel_rfl
  have hQ : freeQ q3 3 0 = q4 := by kernel_rfl
  have := free_fn h b q3 3 0 q3_ok
  rw [hV, hQ] at this
  exact this
set_option maxHeartbeats 2000000 in
theorem alive_fn (h : PH) : Does Try.prog 8 [] [] h (Ret fun r _ _ => r = .bool true) := by
  refine Does_of_W Try.func8 rfl (n := 131) rfl rfl (by simp only [argE] <;> rfl) ?_
  (repeat (first | refine W_seq ?_))
  skip
  refine W_region rfl ?_
  refine WL_is (X_assign rfl rfl) rfl rfl rfl ?_
  (repeat (first | refine WL_nil ?_ | refine Then_normal ?_ | refine W_seq ?_))
  skip
  refine W_region rfl ?_
  refine WL_call rfl rfl rfl Try.func9 rfl rfl rfl rfl (new_fn h 4 3 (by omega) (by omega) (by omega) (by omega)) ?_
  rintro r _ h hl ⟨b, rfl, rfl⟩
  have hq0 : (List.replicate 4 [] : List (List Int)) = q0 := rfl
  rw [hq0]
  simp only [List.cons_append, List.nil_append]
  refine WL_is (X_move rfl rfl) rfl rfl rfl ?_
  refine WL_is (X_extract rfl rfl rfl) rfl rfl rfl ?_
  refine WL_is (X_extract rfl rfl rfl) rfl rfl rfl ?_
  refine WL_is (X_assign rfl rfl) rfl rfl rfl ?_
  refine WL_is (X_assign rfl rfl) rfl rfl rfl ?_
  (repeat (first | refine WL_nil ?_ | refine Then_normal ?_ | refine W_seq ?_))
  skip
  refine W_region rfl ?_
  refine WL_is (X_move rfl rfl) rfl rfl rfl ?_
  refine WL_is (X_neq_f rfl rfl rfl (by omega)) rfl rfl rfl ?_
  refine WL_is (X_move rfl rfl) rfl rfl rfl ?_
  refine WL_is (X_move rfl rfl) rfl rfl rfl ?_
  refine WL_is (X_eqPn_f rfl rfl rfl rfl) rfl rfl rfl ?_
  refine WL_is (X_pick_f rfl rfl rfl) rfl rfl rfl ?_
  (repeat (first | refine WL_nil ?_ | refine Then_normal ?_ | refine W_seq ?_ | refine W_skip ?_ | refine W_false rfl ?_))
  skip
  refine W_region rfl ?_
  refine WL_is (X_move rfl rfl) rfl rfl rfl ?_
  refine WL_callR [_] _ rfl rfl rfl Try.func13 rfl rfl rfl rfl (perm_front 0 rfl) (w1 h b) ?_
  rintro _ _ h hl_ ⟨rfl, rfl⟩
  simp only [List.cons_append, List.nil_append]
  refine WL_is (X_move rfl rfl) rfl rfl rfl ?_
  refine WL_is (X_extract rfl rfl rfl) rfl rfl rfl ?_
  refine WL_is (X_extract rfl rfl rfl) rfl rfl rfl ?_
  refine WL_is (X_assign rfl rfl) rfl rfl rfl ?_
  refine WL_is (X_assign rfl rfl) rfl rfl rfl ?_
  (repeat (first | refine WL_nil ?_ | refine Then_normal ?_ | refine W_seq ?_))
  skip
  refine W_region rfl ?_
  refine WL_is (X_move rfl rfl) rfl rfl rfl ?_
  refine WL_callR [_] _ rfl rfl rfl Try.func13 rfl rfl rfl rfl (perm_front 0 rfl) (w2 h b) ?_
  rintro _ _ h hl_ ⟨rfl, rfl⟩
  simp only [List.cons_append, List.nil_append]
  refine WL_is (X_move rfl rfl) rfl rfl rfl ?_
  refine WL_is (X_extract rfl rfl rfl) rfl rfl rfl ?_
  refine WL_is (X_extract rfl rfl rfl) rfl rfl rfl ?_
  refine WL_is (X_assign rfl rfl) rfl rfl rfl ?_
  refine WL_is (X_assign rfl rfl) rfl rfl rfl ?_
  (repeat (first | refine WL_nil ?_ | refine Then_normal ?_ | refine W_seq ?_))
  skip
  refine W_region rfl ?_
  refine WL_is (X_move rfl rfl) rfl rfl rfl ?_
  refine WL_callR [_] _ rfl rfl rfl Try.func13 rfl rfl rfl rfl (perm_front 0 rfl) (w3 h b) ?_
  rintro _ _ h hl_ ⟨rfl, rfl⟩
  simp only [List.cons_append, List.nil_append]
  refine WL_is (X_move rfl rfl) rfl rfl rfl ?_
  refine WL_is (X_extract rfl rfl rfl) rfl rfl rfl ?_
  refine WL_is (X_extract rfl rfl rfl) rfl rfl rfl ?_
  refine WL_is (X_assign rfl rfl) rfl rfl rfl ?_
  refine WL_is (X_assign rfl rfl) rfl rfl rfl ?_
  (repeat (first | refine WL_nil ?_ | refine Then_normal ?_ | refine W_seq ?_))
  skip
  refine W_region rfl ?_
  refine WL_is (X_move rfl rfl) rfl rfl rfl ?_
  refine WL_callR [_] _ rfl rfl rfl Try.func13 rfl rfl rfl rfl (perm_front 0 rfl) (w4 h b) ?_
  rintro _ _ h hl_ ⟨rfl, rfl⟩
  simp only [List.cons_append, List.nil_append]
  refine WL_is (X_move rfl rfl) rfl rfl rfl ?_
  refine WL_is (X_extract rfl rfl rfl) rfl rfl rfl ?_
  refine WL_is (X_extract rfl rfl rfl) rfl rfl rfl ?_
  refine WL_is (X_assign rfl rfl) rfl rfl rfl ?_
  refine WL_is (X_assign rfl rfl) rfl rfl rfl ?_
  (repeat (first | refine WL_nil ?_ | refine Then_normal ?_ | refine W_seq ?_))
  skip
  refine W_region rfl ?_
  refine WL_is (X_move rfl rfl) rfl rfl rfl ?_
  refine WL_callR [_] _ rfl rfl rfl Try.func19 rfl rfl rfl rfl (perm_front 0 rfl) (lend q3_ok (fun h v vs K => queue_fn h b v vs q3 3 1 K)) ?_
  rintro r _ h hl ⟨_, rfl, rfl⟩
  simp only [List.cons_append, List.nil_append]
  refine WL_updE (UpdE.row (enc := encI) 1 rfl (lenI _)) ?_
  rintro _ h hl ⟨rfl, hq⟩
  simp only [List.eraseIdx_cons_succ, List.eraseIdx_cons_zero]
  refine WL_is (X_assign rfl rfl) rfl rfl rfl ?_
  (repeat (first | refine WL_nil ?_ | refine Then_normal ?_ | refine W_seq ?_))
  skip
  refine W_region rfl ?_
  refine WL_is (X_move rfl rfl) rfl rfl rfl ?_
  refine WL_callR [_] _ rfl rfl rfl Try.func17 rfl rfl rfl rfl (perm_front 0 rfl) (lend q3_ok (fun h v vs K => waits_fn h b v vs q3 3 1 K)) ?_
  rintro r _ h hl2 ⟨_, rfl, rfl, rfl⟩
  have hwv : waitsV q3 1 = .tuple #[.int .i64 1, .bool true] := by kernel_rfl
  rw [hwv]
  simp only [List.cons_append, List.nil_append]
  refine WL_is (X_move rfl rfl) rfl rfl rfl ?_
  refine WL_is (X_extract rfl rfl rfl) rfl rfl rfl ?_
  refine WL_is (X_extract rfl rfl rfl) rfl rfl rfl ?_
  refine WL_is (X_assign rfl rfl) rfl rfl rfl ?_
  refine WL_is (X_assign rfl rfl) rfl rfl rfl ?_
  (repeat (first | refine WL_nil ?_ | refine Then_normal ?_ | refine W_seq ?_))
  skip
  refine W_region rfl ?_
  refine WL_is (X_move rfl rfl) rfl rfl rfl ?_
  refine WL_callR [_] _ rfl rfl rfl Try.func13 rfl rfl rfl rfl (perm_front 0 rfl) (w5 h b) ?_
  rintro _ _ h5 hl5 ⟨rfl, rfl⟩
  simp only [List.cons_append, List.nil_append]
  refine WL_is (X_move rfl rfl) rfl rfl rfl ?_
  refine WL_is (X_extract rfl rfl rfl) rfl rfl rfl ?_
  refine WL_is (X_extract rfl rfl rfl) rfl rfl rfl ?_
  refine WL_is (X_assign rfl rfl) rfl rfl rfl ?_
  refine WL_is (X_assign rfl rfl) rfl rfl rfl ?_
  (repeat (first | refine WL_nil ?_ | refine Then_normal ?_ | refine W_seq ?_))
  skip
  refine W_region rfl ?_
  refine WL_is (X_move rfl rfl) rfl rfl rfl ?_
  refine WL_callR [_] _ rfl rfl rfl Try.func11 rfl rfl rfl rfl (perm_front 0 rfl) (f1 h5 b) ?_
  rintro _ _ h6 hl6 ⟨rfl, rfl⟩
  simp only [List.cons_append, List.nil_append]
  refine WL_is (X_assign rfl rfl) rfl rfl rfl ?_
  (repeat (first | refine WL_nil ?_ | refine Then_normal ?_ | refine W_seq ?_))
  skip
  refine W_region rfl ?_
  refine WL_is (X_move rfl rfl) rfl rfl rfl ?_
  refine WL_callR [_] _ rfl rfl rfl Try.func13 rfl rfl rfl rfl (perm_front 0 rfl) (w6 h6 b) ?_
  rintro _ _ h7 hl7 ⟨rfl, rfl⟩
  simp only [List.cons_append, List.nil_append]
  refine WL_is (X_move rfl rfl) rfl rfl rfl ?_
  refine WL_is (X_extract rfl rfl rfl) rfl rfl rfl ?_
  refine WL_is (X_extract rfl rfl rfl) rfl rfl rfl ?_
  refine WL_is (X_assign rfl rfl) rfl rfl rfl ?_
  refine WL_is (X_assign rfl rfl) rfl rfl rfl ?_
  (repeat (first | refine WL_nil ?_ | refine Then_normal ?_ | refine W_seq ?_))
  skip
  refine W_region rfl ?_
  refine WL_is (X_move rfl rfl) rfl rfl rfl ?_
  refine WL_callR [_] _ rfl rfl rfl Try.func20 rfl rfl rfl rfl (perm_front 0 rfl) (lend q5_ok (fun h v vs K => holder_fn h b v vs q5 3 1 K)) ?_
  rintro r _ h8 hl8 ⟨_, rfl, rfl, rfl⟩
  have hhv : holderV (queueAt q5 1) = .tuple #[.int .i64 1, .bool true] := by kernel_rfl
  rw [hhv]
  simp only [List.cons_append, List.nil_append]
  refine WL_is (X_move rfl rfl) rfl rfl rfl ?_
  refine WL_is (X_extract rfl rfl rfl) rfl rfl rfl ?_
  refine WL_is (X_extract rfl rfl rfl) rfl rfl rfl ?_
  refine WL_is (X_assign rfl rfl) rfl rfl rfl ?_
  refine WL_is (X_assign rfl rfl) rfl rfl rfl ?_
  (repeat (first | refine WL_nil ?_ | refine Then_normal ?_ | refine W_seq ?_))
  skip
  refine W_region rfl ?_
  refine WL_is (X_move rfl rfl) rfl rfl rfl ?_
  refine WL_is (X_move rfl rfl) rfl rfl rfl ?_
  refine WL_is (X_move rfl rfl) rfl rfl rfl ?_
  refine WL_is (X_pick_t rfl rfl rfl) rfl rfl rfl ?_
  refine WL_is (X_move rfl rfl) rfl rfl rfl ?_
  refine WL_is (X_move rfl rfl) rfl rfl rfl ?_
  refine WL_is (X_not rfl rfl) rfl rfl rfl ?_
  refine WL_is (X_pick_t rfl rfl rfl) rfl rfl rfl ?_
  refine WL_is (X_move rfl rfl) rfl rfl rfl ?_
  refine WL_is (X_move rfl rfl) rfl rfl rfl ?_
  refine WL_is (X_eql_t rfl rfl rfl (by omega)) rfl rfl rfl ?_
  refine WL_is (X_pick_t rfl rfl rfl) rfl rfl rfl ?_
  refine WL_is (X_move rfl rfl) rfl rfl rfl ?_
  refine WL_is (X_move rfl rfl) rfl rfl rfl ?_
  refine WL_is (X_eql_t rfl rfl rfl (by omega)) rfl rfl rfl ?_
  refine WL_is (X_pick_t rfl rfl rfl) rfl rfl rfl ?_
  refine WL_is (X_move rfl rfl) rfl rfl rfl ?_
  refine WL_is (X_move rfl rfl) rfl rfl rfl ?_
  try refine WL_off rfl rfl rfl ?_
  refine WL_buildSl (enc := encI) [0, 1] (lenI _) rfl rfl rfl rfl rfl rfl rfl rfl rfl rfl rfl rfl rfl rfl rfl ?_
  intro u1 h9 hl9 hu1
  have hqv : queueAt q3 1 = [0, 1] := by kernel_rfl
  rw [hqv] at hq
  have hq9 := ((((((hq.mono hl2).mono hl5).mono hl6).mono hl7).mono hl8).mono hl9)
  have e1 := same15_fn h9 [0, 1] [0, 1] _ _ hq9 hu1 (by decide) (by decide)
  rw [decide_eq_true rfl] at e1
  refine WL_is (X_callv rfl rfl rfl Try.func21 rfl (by assumption)) rfl rfl rfl ?_
  refine WL_is (X_pick_t rfl rfl rfl) rfl rfl rfl ?_
  refine WL_is (X_move rfl rfl) rfl rfl rfl ?_
  refine WL_is (X_move rfl rfl) rfl rfl rfl ?_
  refine WL_is (X_eql_t rfl rfl rfl (by omega)) rfl rfl rfl ?_
  refine WL_is (X_pick_t rfl rfl rfl) rfl rfl rfl ?_
  refine WL_is (X_move rfl rfl) rfl rfl rfl ?_
  refine WL_is (X_move rfl rfl) rfl rfl rfl ?_
  refine WL_is (X_pick_t rfl rfl rfl) rfl rfl rfl ?_
  refine WL_is (X_move rfl rfl) rfl rfl rfl ?_
  refine WL_is (X_move rfl rfl) rfl rfl rfl ?_
  refine WL_is (X_eql_t rfl rfl rfl (by omega)) rfl rfl rfl ?_
  refine WL_is (X_pick_t rfl rfl rfl) rfl rfl rfl ?_
  refine WL_is (X_move rfl rfl) rfl rfl rfl ?_
  refine WL_is (X_move rfl rfl) rfl rfl rfl ?_
  refine WL_is (X_eql_t rfl rfl rfl (by omega)) rfl rfl rfl ?_
  refine WL_is (X_pick_t rfl rfl rfl) rfl rfl rfl ?_
  refine WL_is (X_move rfl rfl) rfl rfl rfl ?_
  refine WL_is (X_move rfl rfl) rfl rfl rfl ?_
  refine WL_is (X_pick_t rfl rfl rfl) rfl rfl rfl ?_
  refine WL_is (X_move rfl rfl) rfl rfl rfl ?_
  refine WL_is (X_move rfl rfl) rfl rfl rfl ?_
  refine WL_is (X_eql_t rfl rfl rfl (by omega)) rfl rfl rfl ?_
  refine WL_is (X_pick_t rfl rfl rfl) rfl rfl rfl ?_
  refine WL_is (X_move rfl rfl) rfl rfl rfl ?_
  refine WL_is (X_move rfl rfl) rfl rfl rfl ?_
  refine WL_is (X_eql_t rfl rfl rfl (by omega)) rfl rfl rfl ?_
  refine WL_is (X_pick_t rfl rfl rfl) rfl rfl rfl ?_
  refine WL_is (X_move rfl rfl) rfl rfl rfl ?_
  refine WL_is (X_move rfl rfl) rfl rfl rfl ?_
  refine WL_is (X_pick_t rfl rfl rfl) rfl rfl rfl ?_
  refine WL_is (X_move rfl rfl) rfl rfl rfl ?_
  refine WL_is (X_move rfl rfl) rfl rfl rfl ?_
  refine WL_callR [_] _ rfl rfl rfl Try.func18 rfl rfl rfl rfl (perm_front 0 rfl) (lend q5_ok (fun h v vs K => holds_fn h b v vs q5 3 1 K)) ?_
  rintro r _ h10 hl10 ⟨_, rfl, rfl⟩
  simp only [List.cons_append, List.nil_append]
  refine WL_updE (UpdE.row (enc := encI) 1 rfl (lenI _)) ?_
  rintro _ h11 hl11 ⟨rfl, hh⟩
  have hhv : holdsL q5 1 q5.length = [0, 1, 2] := by kernel_rfl
  rw [hhv] at hh
  simp only [List.eraseIdx_cons_succ, List.eraseIdx_cons_zero]
  refine WL_buildSl (enc := encI) [0, 1, 2] (lenI _) rfl rfl rfl rfl rfl rfl rfl rfl rfl rfl rfl rfl rfl rfl rfl ?_
  intro u2 h12 hl12 hu2
  have e2 := same15_fn h12 [0, 1, 2] [0, 1, 2] _ _ (hh.mono hl12) hu2 (by decide) (by decide)
  rw [decide_eq_true rfl] at e2
  refine WL_is (X_callv rfl rfl rfl Try.func21 rfl (by assumption)) rfl rfl rfl ?_
  refine WL_is (X_pick_t rfl rfl rfl) rfl rfl rfl ?_
  refine WL_is (X_assign rfl rfl) rfl rfl rfl ?_
  (repeat (first | refine WL_nil ?_ | refine Then_normal ?_ | refine W_ret ?_))
  refine Body_end rfl rfl rfl (SubR.none _) ?_
  rfl
end Go.Proofs.Ytgbcdjofkfdgnaa
