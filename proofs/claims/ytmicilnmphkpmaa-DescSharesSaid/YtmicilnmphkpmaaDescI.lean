/- Open files: the chapter's examples; what no table answers. -/
import Derived.Test.YtmicilnmphkpmaaDescH
namespace Go.Proofs.Ytmicilnmphkpmaa
open Go Go.Par PH
attribute [local irreducible] W WL Does Exec Body Then inBlk RG WR row obj pblk
def f5 : FileD := ⟨false, 5, 0, false, 0, 0⟩
def f5b : FileD := ⟨false, 5, 0, false, 0, 9⟩
def f6 : FileD := ⟨false, 6, 0, false, 0, 0⟩
def f7 : FileD := ⟨false, 7, 0, false, 0, 0⟩
abbrev s0 : DS := ⟨[], [0, 0, 0, 0, 0, 0, 0, 0]⟩
theorem s0_ok : s0.Ok := ⟨rfl, by decide⟩
abbrev s1 : DS := ⟨[f5], [1, 0, 0, 0, 0, 0, 0, 0]⟩
theorem s1_ok : s1.Ok := ⟨rfl, by decide⟩
abbrev s2 : DS := ⟨[f5, f6], [1, 2, 0, 0, 0, 0, 0, 0]⟩
theorem s2_ok : s2.Ok := ⟨rfl, by decide⟩
abbrev s3 : DS := ⟨[f5, f6], [1, 2, 1, 0, 0, 0, 0, 0]⟩
theorem s3_ok : s3.Ok := ⟨rfl, by decide⟩
abbrev s4 : DS := ⟨[f5b, f6], [1, 2, 1, 0, 0, 0, 0, 0]⟩
theorem s4_ok : s4.Ok := ⟨rfl, by decide⟩
abbrev s5 : DS := ⟨[f5b, f6], [0, 2, 1, 0, 0, 0, 0, 0]⟩
theorem s5_ok : s5.Ok := ⟨rfl, by decide⟩
abbrev s6 : DS := ⟨[f5b, f6, f7], [3, 2, 1, 0, 0, 0, 0, 0]⟩
theorem s6_ok : s6.Ok := ⟨rfl, by decide⟩
abbrev s7 : DS := ⟨[f5b, f6, f7], [3, 2, 0, 0, 0, 0, 0, 0]⟩
theorem s7_ok : s7.Ok := ⟨rfl, by decide⟩
theorem c1 (h : PH) (b : Nat) : Does Try.prog 9 [.pointer (some ⟨b, 0, none⟩), fileV f5] [tabR b s0] h (Ret fun r R' _ => r = .tuple #[.int .i64 0, .int .i64 0] ∧ R' = [tabR b s1]) := open_fn h b s0 f5 s0_ok
theorem c2 (h : PH) (b : Nat) : Does Try.prog 9 [.pointer (some ⟨b, 0, none⟩), fileV f6] [tabR b s1] h (Ret fun r R' _ => r = .tuple #[.int .i64 1, .int .i64 0] ∧ R' = [tabR b s2]) := open_fn h b s1 f6 s1_ok
theorem c3 (h : PH) (b : Nat) : Does Try.prog 13 [.pointer (some ⟨b, 0, none⟩), .int .i64 0] [tabR b s2] h (Ret fun r R' _ => r = .tuple #[.int .i64 2, .int .i64 0] ∧ R' = [tabR b s3]) := dup_fn h b s2 0 s2_ok
theorem c4 (h : PH) (b : Nat) : Does Try.prog 11 [.pointer (some ⟨b, 0, none⟩), .int .i64 2, .int .i64 9] [tabR b s3] h (Ret fun r R' _ => r = .int .i64 0 ∧ R' = [tabR b s4]) := move_fn h b s3 2 9 s3_ok
theorem c5 (h : PH) (b : Nat) : Does Try.prog 17 [.pointer (some ⟨b, 0, none⟩), .int .i64 0] [tabR b s4] h (Ret fun r R' _ => r = .tuple #[fileV f5b, .int .i64 0] ∧ R' = [tabR b s4]) := get_fn h b s4 0 s4_ok
theorem c6 (h : PH) (b : Nat) : Does Try.prog 15 [.pointer (some ⟨b, 0, none⟩), .int .i64 0] [tabR b s4] h (Ret fun r R' _ => r = .tuple #[fileV f5b, .bool false, .int .i64 0] ∧ R' = [tabR b s5]) := close_fn h b s4 0 s4_ok
theorem c7 (h : PH) (b : Nat) : Does Try.prog 15 [.pointer (some ⟨b, 0, none⟩), .int .i64 0] [tabR b s5] h (Ret fun r R' _ => r = .tuple #[fileV zeroF, .bool false, .int .i64 609] ∧ R' = [tabR b s5]) := close_fn h b s5 0 s5_ok
theorem c8 (h : PH) (b : Nat) : Does Try.prog 9 [.pointer (some ⟨b, 0, none⟩), fileV f7] [tabR b s5] h (Ret fun r R' _ => r = .tuple #[.int .i64 0, .int .i64 0] ∧ R' = [tabR b s6]) := open_fn h b s5 f7 s5_ok
theorem c9 (h : PH) (b : Nat) : Does Try.prog 15 [.pointer (some ⟨b, 0, none⟩), .int .i64 2] [tabR b s6] h (Ret fun r R' _ => r = .tuple #[fileV f5b, .bool true, .int .i64 0] ∧ R' = [tabR b s7]) := close_fn h b s6 2 s6_ok
theorem c10 (h : PH) (b : Nat) : Does Try.prog 11 [.pointer (some ⟨b, 0, none⟩), .int .i64 1, .int .i64 (-1)] [tabR b s7] h (Ret fun r R' _ => r = .int .i64 622 ∧ R' = [tabR b s7]) := move_fn h b s7 1 (-1) s7_ok
set_option maxHeartbeats 2000000 in
theorem alive_fn (h : PH) : Does Try.prog 7 [] [] h (Ret fun r _ _ => r = .bool true) := by
  refine Does_of_W Try.func7 rfl (n := 148) rfl rfl (by simp only [argE] <;> rfl) ?_
  (repeat (first | refine W_seq ?_))
  skip
  refine W_region rfl ?_
  refine WL_is (X_assign rfl rfl) rfl rfl rfl ?_
  (repeat (first | refine WL_nil ?_ | refine Then_normal ?_ | refine W_seq ?_))
  skip
  refine W_region rfl ?_
  refine WL_call rfl rfl rfl Try.func8 rfl rfl rfl rfl (new_fn h) ?_
  rintro r _ h hl ⟨b, rfl, rfl⟩
  simp only [List.cons_append, List.nil_append]
  refine WL_is (X_assign rfl rfl) rfl rfl rfl ?_
  (repeat (first | refine WL_nil ?_ | refine Then_normal ?_ | refine W_seq ?_))
  skip
  refine W_region rfl ?_
  refine WL_is (X_move rfl rfl) rfl rfl rfl ?_
  refine WL_is (X_eqPn_f rfl rfl rfl rfl) rfl rfl rfl ?_
  (repeat (first | refine WL_nil ?_ | refine Then_normal ?_ | refine W_seq ?_ | refine W_skip ?_ | refine W_false rfl ?_))
  skip
  refine W_region rfl ?_
  refine WL_is (X_move rfl rfl) rfl rfl rfl ?_
  refine WL_is (X_build rfl rfl rfl) rfl rfl rfl ?_
  refine WL_callR [_] _ rfl rfl rfl Try.func9 rfl rfl rfl rfl (perm_front 0 rfl) (c1 h b) ?_
  rintro _ _ h hl_ ⟨rfl, rfl⟩
  simp only [List.cons_append, List.nil_append]
  refine WL_is (X_move rfl rfl) rfl rfl rfl ?_
  refine WL_is (X_extract rfl rfl rfl) rfl rfl rfl ?_
  refine WL_is (X_extract rfl rfl rfl) rfl rfl rfl ?_
  refine WL_is (X_assign rfl rfl) rfl rfl rfl ?_
  refine WL_is (X_assign rfl rfl) rfl rfl rfl ?_
  (repeat (first | refine WL_nil ?_ | refine Then_normal ?_ | refine W_seq ?_))
  skip
  refine W_region rfl ?_
  refine WL_is (X_move rfl rfl) rfl rfl rfl ?_
  refine WL_is (X_build rfl rfl rfl) rfl rfl rfl ?_
  refine WL_callR [_] _ rfl rfl rfl Try.func9 rfl rfl rfl rfl (perm_front 0 rfl) (c2 h b) ?_
  rintro _ _ h hl_ ⟨rfl, rfl⟩
  simp only [List.cons_append, List.nil_append]
  refine WL_is (X_move rfl rfl) rfl rfl rfl ?_
  refine WL_is (X_extract rfl rfl rfl) rfl rfl rfl ?_
  refine WL_is (X_extract rfl rfl rfl) rfl rfl rfl ?_
  refine WL_is (X_assign rfl rfl) rfl rfl rfl ?_
  refine WL_is (X_assign rfl rfl) rfl rfl rfl ?_
  (repeat (first | refine WL_nil ?_ | refine Then_normal ?_ | refine W_seq ?_))
  skip
  refine W_region rfl ?_
  refine WL_is (X_move rfl rfl) rfl rfl rfl ?_
  refine WL_callR [_] _ rfl rfl rfl Try.func13 rfl rfl rfl rfl (perm_front 0 rfl) (c3 h b) ?_
  rintro _ _ h hl_ ⟨rfl, rfl⟩
  simp only [List.cons_append, List.nil_append]
  refine WL_is (X_move rfl rfl) rfl rfl rfl ?_
  refine WL_is (X_extract rfl rfl rfl) rfl rfl rfl ?_
  refine WL_is (X_extract rfl rfl rfl) rfl rfl rfl ?_
  refine WL_is (X_assign rfl rfl) rfl rfl rfl ?_
  refine WL_is (X_assign rfl rfl) rfl rfl rfl ?_
  (repeat (first | refine WL_nil ?_ | refine Then_normal ?_ | refine W_seq ?_))
  skip
  refine W_region rfl ?_
  refine WL_is (X_move rfl rfl) rfl rfl rfl ?_
  refine WL_callR [_] _ rfl rfl rfl Try.func11 rfl rfl rfl rfl (perm_front 0 rfl) (c4 h b) ?_
  rintro _ _ h hl_ ⟨rfl, rfl⟩
  simp only [List.cons_append, List.nil_append]
  refine WL_is (X_assign rfl rfl) rfl rfl rfl ?_
  (repeat (first | refine WL_nil ?_ | refine Then_normal ?_ | refine W_seq ?_))
  skip
  refine W_region rfl ?_
  refine WL_is (X_move rfl rfl) rfl rfl rfl ?_
  refine WL_callR [_] _ rfl rfl rfl Try.func17 rfl rfl rfl rfl (perm_front 0 rfl) (c5 h b) ?_
  rintro _ _ h hl_ ⟨rfl, rfl⟩
  simp only [List.cons_append, List.nil_append]
  simp only [fileV]
  refine WL_is (X_move rfl rfl) rfl rfl rfl ?_
  refine WL_is (X_extract rfl rfl rfl) rfl rfl rfl ?_
  refine WL_is (X_extract rfl rfl rfl) rfl rfl rfl ?_
  (refine WL_alloc rfl rfl rfl rfl rfl rfl ?_; intro b_)
  refine WL_store rfl rfl rfl (by exact idx0) rfl rfl rfl rfl rfl rfl rfl rfl rfl ?_
  refine WL_is (X_assign rfl rfl) rfl rfl rfl ?_
  (repeat (first | refine WL_nil ?_ | refine Then_normal ?_ | refine W_seq ?_))
  skip
  refine W_region rfl ?_
  refine WL_is (X_move rfl rfl) rfl rfl rfl ?_
  refine WL_callR [_] _ rfl rfl rfl Try.func15 rfl rfl rfl rfl (perm_front 1 rfl) (c6 h b) ?_
  rintro _ _ h hl_ ⟨rfl, rfl⟩
  simp only [List.cons_append, List.nil_append, List.eraseIdx_cons_zero]
  simp only [fileV]
  refine WL_is (X_move rfl rfl) rfl rfl rfl ?_
  refine WL_is (X_extract rfl rfl rfl) rfl rfl rfl ?_
  refine WL_is (X_extract rfl rfl rfl) rfl rfl rfl ?_
  refine WL_is (X_extract rfl rfl rfl) rfl rfl rfl ?_
  (refine WL_alloc rfl rfl rfl rfl rfl rfl ?_; intro b_)
  refine WL_store rfl rfl rfl (by exact idx0) rfl rfl rfl rfl rfl rfl rfl rfl rfl ?_
  refine WL_is (X_assign rfl rfl) rfl rfl rfl ?_
  refine WL_is (X_assign rfl rfl) rfl rfl rfl ?_
  (repeat (first | refine WL_nil ?_ | refine Then_normal ?_ | refine W_seq ?_))
  skip
  refine W_region rfl ?_
  refine WL_is (X_move rfl rfl) rfl rfl rfl ?_
  refine WL_callR [_] _ rfl rfl rfl Try.func15 rfl rfl rfl rfl (perm_front 1 rfl) (c7 h b) ?_
  rintro _ _ h hl_ ⟨rfl, rfl⟩
  simp only [List.cons_append, List.nil_append, List.eraseIdx_cons_zero]
  simp only [fileV]
  refine WL_is (X_move rfl rfl) rfl rfl rfl ?_
  refine WL_is (X_extract rfl rfl rfl) rfl rfl rfl ?_
  refine WL_is (X_extract rfl rfl rfl) rfl rfl rfl ?_
  refine WL_is (X_extract rfl rfl rfl) rfl rfl rfl ?_
  (refine WL_alloc rfl rfl rfl rfl rfl rfl ?_; intro b_)
  refine WL_store rfl rfl rfl (by exact idx0) rfl rfl rfl rfl rfl rfl rfl rfl rfl ?_
  refine WL_is (X_assign rfl rfl) rfl rfl rfl ?_
  refine WL_is (X_assign rfl rfl) rfl rfl rfl ?_
  (repeat (first | refine WL_nil ?_ | refine Then_normal ?_ | refine W_seq ?_))
  skip
  refine W_region rfl ?_
  refine WL_is (X_move rfl rfl) rfl rfl rfl ?_
  refine WL_is (X_build rfl rfl rfl) rfl rfl rfl ?_
  refine WL_callR [_] _ rfl rfl rfl Try.func9 rfl rfl rfl rfl (perm_front 1 rfl) (c8 h b) ?_
  rintro _ _ h hl_ ⟨rfl, rfl⟩
  simp only [List.cons_append, List.nil_append, List.eraseIdx_cons_zero]
  refine WL_is (X_move rfl rfl) rfl rfl rfl ?_
  refine WL_is (X_extract rfl rfl rfl) rfl rfl rfl ?_
  refine WL_is (X_extract rfl rfl rfl) rfl rfl rfl ?_
  refine WL_is (X_assign rfl rfl) rfl rfl rfl ?_
  refine WL_is (X_assign rfl rfl) rfl rfl rfl ?_
  (repeat (first | refine WL_nil ?_ | refine Then_normal ?_ | refine W_seq ?_))
  skip
  refine W_region rfl ?_
  refine WL_is (X_move rfl rfl) rfl rfl rfl ?_
  refine WL_callR [_] _ rfl rfl rfl Try.func15 rfl rfl rfl rfl (perm_front 0 rfl) (c9 h b) ?_
  rintro _ _ h hl_ ⟨rfl, rfl⟩
  simp only [List.cons_append, List.nil_append]
  simp only [fileV]
  refine WL_is (X_move rfl rfl) rfl rfl rfl ?_
  refine WL_is (X_extract rfl rfl rfl) rfl rfl rfl ?_
  refine WL_is (X_extract rfl rfl rfl) rfl rfl rfl ?_
  refine WL_is (X_extract rfl rfl rfl) rfl rfl rfl ?_
  (refine WL_alloc rfl rfl rfl rfl rfl rfl ?_; intro b_)
  refine WL_store rfl rfl rfl (by exact idx0) rfl rfl rfl rfl rfl rfl rfl rfl rfl ?_
  refine WL_is (X_assign rfl rfl) rfl rfl rfl ?_
  refine WL_is (X_assign rfl rfl) rfl rfl rfl ?_
  (repeat (first | refine WL_nil ?_ | refine Then_normal ?_ | refine W_seq ?_))
  skip
  refine W_region rfl ?_
  refine WL_is (X_move rfl rfl) rfl rfl rfl ?_
  refine WL_is (X_eql_t rfl rfl rfl (by omega)) rfl rfl rfl ?_
  refine WL_is (X_move rfl rfl) rfl rfl rfl ?_
  refine WL_is (X_move rfl rfl) rfl rfl rfl ?_
  refine WL_is (X_eql_t rfl rfl rfl (by omega)) rfl rfl rfl ?_
  refine WL_is (X_pick_t rfl rfl rfl) rfl rfl rfl ?_
  refine WL_is (X_move rfl rfl) rfl rfl rfl ?_
  refine WL_is (X_move rfl rfl) rfl rfl rfl ?_
  refine WL_is (X_eql_t rfl rfl rfl (by omega)) rfl rfl rfl ?_
  refine WL_is (X_pick_t rfl rfl rfl) rfl rfl rfl ?_
  refine WL_is (X_move rfl rfl) rfl rfl rfl ?_
  refine WL_is (X_move rfl rfl) rfl rfl rfl ?_
  refine WL_is (X_eql_t rfl rfl rfl (by omega)) rfl rfl rfl ?_
  refine WL_is (X_pick_t rfl rfl rfl) rfl rfl rfl ?_
  refine WL_is (X_move rfl rfl) rfl rfl rfl ?_
  refine WL_is (X_move rfl rfl) rfl rfl rfl ?_
  refine WL_is (X_eql_t rfl rfl rfl (by omega)) rfl rfl rfl ?_
  refine WL_is (X_pick_t rfl rfl rfl) rfl rfl rfl ?_
  refine WL_is (X_move rfl rfl) rfl rfl rfl ?_
  refine WL_is (X_move rfl rfl) rfl rfl rfl ?_
  refine WL_is (X_eql_t rfl rfl rfl (by omega)) rfl rfl rfl ?_
  refine WL_is (X_pick_t rfl rfl rfl) rfl rfl rfl ?_
  refine WL_is (X_move rfl rfl) rfl rfl rfl ?_
  refine WL_is (X_move rfl rfl) rfl rfl rfl ?_
  refine WL_is (X_eql_t rfl rfl rfl (by omega)) rfl rfl rfl ?_
  refine WL_is (X_pick_t rfl rfl rfl) rfl rfl rfl ?_
  refine WL_is (X_move rfl rfl) rfl rfl rfl ?_
  refine WL_is (X_loadA rfl rfl (by exact idx4) rfl rfl rfl) rfl rfl rfl ?_
  refine WL_is (X_build rfl rfl rfl) rfl rfl rfl ?_
  refine WL_is (X_eqA 8 heldOk guardOk rfl rfl rfl rfl rfl rfl rfl) rfl rfl rfl ?_
  refine WL_is (X_pick_t rfl rfl rfl) rfl rfl rfl ?_
  refine WL_is (X_move rfl rfl) rfl rfl rfl ?_
  refine WL_is (X_move rfl rfl) rfl rfl rfl ?_
  refine WL_is (X_eql_t rfl rfl rfl (by omega)) rfl rfl rfl ?_
  refine WL_is (X_pick_t rfl rfl rfl) rfl rfl rfl ?_
  refine WL_is (X_move rfl rfl) rfl rfl rfl ?_
  refine WL_is (X_loadA rfl rfl (by exact idx3) rfl rfl rfl) rfl rfl rfl ?_
  refine WL_is (X_loadA rfl rfl (by exact idx4) rfl rfl rfl) rfl rfl rfl ?_
  refine WL_is (X_eqA 8 heldOk guardOk rfl rfl rfl rfl rfl rfl rfl) rfl rfl rfl ?_
  refine WL_is (X_pick_t rfl rfl rfl) rfl rfl rfl ?_
  refine WL_is (X_move rfl rfl) rfl rfl rfl ?_
  refine WL_is (X_move rfl rfl) rfl rfl rfl ?_
  refine WL_is (X_not rfl rfl) rfl rfl rfl ?_
  refine WL_is (X_pick_t rfl rfl rfl) rfl rfl rfl ?_
  refine WL_is (X_move rfl rfl) rfl rfl rfl ?_
  refine WL_is (X_move rfl rfl) rfl rfl rfl ?_
  refine WL_is (X_eql_t rfl rfl rfl (by omega)) rfl rfl rfl ?_
  refine WL_is (X_pick_t rfl rfl rfl) rfl rfl rfl ?_
  refine WL_is (X_move rfl rfl) rfl rfl rfl ?_
  refine WL_is (X_move rfl rfl) rfl rfl rfl ?_
  refine WL_is (X_eql_t rfl rfl rfl (by omega)) rfl rfl rfl ?_
  refine WL_is (X_pick_t rfl rfl rfl) rfl rfl rfl ?_
  refine WL_is (X_move rfl rfl) rfl rfl rfl ?_
  refine WL_is (X_move rfl rfl) rfl rfl rfl ?_
  refine WL_is (X_eql_t rfl rfl rfl (by omega)) rfl rfl rfl ?_
  refine WL_is (X_pick_t rfl rfl rfl) rfl rfl rfl ?_
  refine WL_is (X_move rfl rfl) rfl rfl rfl ?_
  refine WL_is (X_loadA rfl rfl (by exact idx0) rfl rfl rfl) rfl rfl rfl ?_
  refine WL_is (X_loadA rfl rfl (by exact idx4) rfl rfl rfl) rfl rfl rfl ?_
  refine WL_is (X_eqA 8 heldOk guardOk rfl rfl rfl rfl rfl rfl rfl) rfl rfl rfl ?_
  refine WL_is (X_pick_t rfl rfl rfl) rfl rfl rfl ?_
  refine WL_is (X_move rfl rfl) rfl rfl rfl ?_
  refine WL_is (X_move rfl rfl) rfl rfl rfl ?_
  refine WL_is (X_pick_t rfl rfl rfl) rfl rfl rfl ?_
  refine WL_is (X_move rfl rfl) rfl rfl rfl ?_
  refine WL_is (X_move rfl rfl) rfl rfl rfl ?_
  try refine WL_off rfl rfl rfl ?_
  refine WL_callR [_] _ rfl rfl rfl Try.func11 rfl rfl rfl rfl (perm_front 1 rfl) (c10 h b) ?_
  rintro _ _ h hl_ ⟨rfl, rfl⟩
  simp only [List.cons_append, List.nil_append, List.eraseIdx_cons_zero]
  refine WL_is (X_eql_t rfl rfl rfl (by omega)) rfl rfl rfl ?_
  refine WL_is (X_pick_t rfl rfl rfl) rfl rfl rfl ?_
  refine WL_is (X_move rfl rfl) rfl rfl rfl ?_
  refine WL_is (X_move rfl rfl) rfl rfl rfl ?_
  try refine WL_off rfl rfl rfl ?_
  refine WL_callR [_] _ rfl rfl rfl Try.func20 rfl rfl rfl rfl (perm_front 0 rfl) (list_fn h b s7 s7_ok) ?_
  rintro r _ h hl_ ⟨hr, rfl⟩
  refine WL_buildSl (enc := encI) [0, 1] (lenI _) rfl rfl rfl rfl rfl rfl rfl rfl rfl rfl rfl rfl rfl rfl rfl ?_
  intro u h3 hl3 hu
  have e1 := same15_fn h3 [0, 1] [0, 1] _ _ (hr.mono hl3) hu (by decide) (by decide)
  rw [decide_eq_true rfl] at e1
  refine WL_is (X_callv rfl rfl rfl Try.func19 rfl (by assumption)) rfl rfl rfl ?_
  refine WL_is (X_pick_t rfl rfl rfl) rfl rfl rfl ?_
  refine WL_is (X_assign rfl rfl) rfl rfl rfl ?_
  (repeat (first | refine WL_nil ?_ | refine Then_normal ?_ | refine W_ret ?_))
  refine Body_end rfl rfl rfl (SubR.none _) ?_
  rfl
/-! What no table answers. -/
theorem openN_fn (h : PH) (f : FileD) : Does Try.prog 9 [.pointer none, fileV f] [] h (Ret fun r R' _ => r = .tuple #[.int .i64 0, .int .i64 1] ∧ R' = []) := by
  unfold fileV
  refine Does_of_W Try.func9 rfl (n := 24) rfl rfl (by simp only [argE, Nat.reduceAdd] <;> rfl) ?_
  (repeat (first | refine W_seq ?_))
  skip
  refine W_region rfl ?_
  (refine WL_box rfl rfl rfl rfl rfl rfl ?_; intro b_)
  refine WL_is (X_assign rfl rfl) rfl rfl rfl ?_
  refine WL_is (X_assign rfl rfl) rfl rfl rfl ?_
  (repeat (first | refine WL_nil ?_ | refine Then_normal ?_ | refine W_seq ?_))
  skip
  refine W_region rfl ?_
  refine WL_is (X_move rfl rfl) rfl rfl rfl ?_
  refine WL_is (X_eqPn_t rfl rfl rfl rfl) rfl rfl rfl ?_
  (repeat (first | refine WL_nil ?_ | refine Then_normal ?_ | refine W_seq ?_ | refine W_true rfl ?_))
  skip
  refine W_region rfl ?_
  refine WL_is (X_assign rfl rfl) rfl rfl rfl ?_
  refine WL_is (X_assign rfl rfl) rfl rfl rfl ?_
  (repeat (first | refine WL_nil ?_ | refine Then_normal ?_ | refine W_ret ?_ | refine Then_ret ?_))
  refine Body_end rfl rfl rfl (SubR.none _) ⟨rfl, rfl⟩
theorem getN_fn (h : PH) (fd : Int) : Does Try.prog 17 [.pointer none, .int .i64 fd] [] h (Ret fun r R' _ => r = .tuple #[fileV zeroF, .int .i64 1] ∧ R' = []) := by
  refine Does_of_W Try.func17 rfl (n := 21) rfl rfl (by simp only [argE, Nat.reduceAdd] <;> rfl) ?_
  (repeat (first | refine W_seq ?_))
  skip
  refine W_region rfl ?_
  (refine WL_alloc rfl rfl rfl rfl rfl rfl ?_; intro b_)
  refine WL_is (X_assign rfl rfl) rfl rfl rfl ?_
  (repeat (first | refine WL_nil ?_ | refine Then_normal ?_ | refine W_seq ?_))
  skip
  refine W_region rfl ?_
  refine WL_is (X_move rfl rfl) rfl rfl rfl ?_
  refine WL_is (X_move rfl rfl) rfl rfl rfl ?_
  refine WL_callR [] _ rfl rfl rfl Try.func24 rfl rfl rfl rfl (.refl _) (file_nil h fd) ?_
  rintro _ _ h hl_ ⟨rfl, rfl⟩
  simp only [List.nil_append]
  refine WL_is (X_move rfl rfl) rfl rfl rfl ?_
  refine WL_is (X_extract rfl rfl rfl) rfl rfl rfl ?_
  refine WL_is (X_extract rfl rfl rfl) rfl rfl rfl ?_
  refine WL_is (X_assign rfl rfl) rfl rfl rfl ?_
  refine WL_is (X_assign rfl rfl) rfl rfl rfl ?_
  (repeat (first | refine WL_nil ?_ | refine Then_normal ?_ | refine W_seq ?_))
  skip
  refine W_region rfl ?_
  refine WL_is (X_move rfl rfl) rfl rfl rfl ?_
  refine WL_is (X_neq_t rfl rfl rfl (by omega)) rfl rfl rfl ?_
  (repeat (first | refine WL_nil ?_ | refine Then_normal ?_ | refine W_seq ?_ | refine W_true rfl ?_))
  skip
  refine W_region rfl ?_
  refine WL_is (X_build rfl rfl rfl) rfl rfl rfl ?_
  refine WL_is (X_move rfl rfl) rfl rfl rfl ?_
  refine WL_store rfl rfl rfl (by exact idx0) rfl rfl rfl rfl rfl rfl rfl rfl rfl ?_
  refine WL_is (X_assign rfl rfl) rfl rfl rfl ?_
  (repeat (first | refine WL_nil ?_ | refine Then_normal ?_ | refine W_ret ?_ | refine Then_ret ?_))
  refine Body_vals (.cons (.cellA rfl idx0 rfl rfl rfl) (.cons (.tmp rfl) .nil)) rfl ?_
  exact UpdE.sub (SubR.none _) ⟨rfl, rfl⟩
theorem moveN_fn (h : PH) (fd off : Int) : Does Try.prog 11 [.pointer none, .int .i64 fd, .int .i64 off] [] h (Ret fun r R' _ => r = .int .i64 1 ∧ R' = []) := by
  refine Does_of_W Try.func11 rfl (n := 24) rfl rfl (by simp only [argE, Nat.reduceAdd] <;> rfl) ?_
  (repeat (first | refine W_seq ?_))
  skip
  refine W_region rfl ?_
  refine WL_is (X_assign rfl rfl) rfl rfl rfl ?_
  (repeat (first | refine WL_nil ?_ | refine Then_normal ?_ | refine W_seq ?_))
  skip
  refine W_region rfl ?_
  refine WL_is (X_move rfl rfl) rfl rfl rfl ?_
  refine WL_is (X_move rfl rfl) rfl rfl rfl ?_
  refine WL_callR [] _ rfl rfl rfl Try.func24 rfl rfl rfl rfl (.refl _) (file_nil h fd) ?_
  rintro _ _ h hl_ ⟨rfl, rfl⟩
  simp only [List.nil_append]
  refine WL_is (X_move rfl rfl) rfl rfl rfl ?_
  refine WL_is (X_extract rfl rfl rfl) rfl rfl rfl ?_
  refine WL_is (X_extract rfl rfl rfl) rfl rfl rfl ?_
  refine WL_is (X_assign rfl rfl) rfl rfl rfl ?_
  refine WL_is (X_assign rfl rfl) rfl rfl rfl ?_
  (repeat (first | refine WL_nil ?_ | refine Then_normal ?_ | refine W_seq ?_))
  skip
  refine W_region rfl ?_
  refine WL_is (X_move rfl rfl) rfl rfl rfl ?_
  refine WL_is (X_neq_t rfl rfl rfl (by omega)) rfl rfl rfl ?_
  (repeat (first | refine WL_nil ?_ | refine Then_normal ?_ | refine W_seq ?_ | refine W_true rfl ?_))
  skip
  refine W_region rfl ?_
  refine WL_is (X_move rfl rfl) rfl rfl rfl ?_
  refine WL_is (X_assign rfl rfl) rfl rfl rfl ?_
  (repeat (first | refine WL_nil ?_ | refine Then_normal ?_ | refine W_ret ?_ | refine Then_ret ?_))
  refine Body_end rfl rfl rfl (SubR.none _) ⟨rfl, rfl⟩
theorem dupN_fn (h : PH) (fd : Int) : Does Try.prog 13 [.pointer none, .int .i64 fd] [] h (Ret fun r R' _ => r = .tuple #[.int .i64 0, .int .i64 1] ∧ R' = []) := by
  refine Does_of_W Try.func13 rfl (n := 33) rfl rfl (by simp only [argE, Nat.reduceAdd] <;> rfl) ?_
  (repeat (first | refine W_seq ?_))
  skip
  refine W_region rfl ?_
  refine WL_is (X_assign rfl rfl) rfl rfl rfl ?_
  refine WL_is (X_assign rfl rfl) rfl rfl rfl ?_
  (repeat (first | refine WL_nil ?_ | refine Then_normal ?_ | refine W_seq ?_))
  skip
  refine W_region rfl ?_
  refine WL_is (X_move rfl rfl) rfl rfl rfl ?_
  refine WL_is (X_move rfl rfl) rfl rfl rfl ?_
  refine WL_callR [] _ rfl rfl rfl Try.func24 rfl rfl rfl rfl (.refl _) (file_nil h fd) ?_
  rintro _ _ h hl_ ⟨rfl, rfl⟩
  simp only [List.nil_append]
  refine WL_is (X_move rfl rfl) rfl rfl rfl ?_
  refine WL_is (X_extract rfl rfl rfl) rfl rfl rfl ?_
  refine WL_is (X_extract rfl rfl rfl) rfl rfl rfl ?_
  refine WL_is (X_assign rfl rfl) rfl rfl rfl ?_
  refine WL_is (X_assign rfl rfl) rfl rfl rfl ?_
  (repeat (first | refine WL_nil ?_ | refine Then_normal ?_ | refine W_seq ?_))
  skip
  refine W_region rfl ?_
  refine WL_is (X_move rfl rfl) rfl rfl rfl ?_
  refine WL_is (X_neq_t rfl rfl rfl (by omega)) rfl rfl rfl ?_
  (repeat (first | refine WL_nil ?_ | refine Then_normal ?_ | refine W_seq ?_ | refine W_true rfl ?_))
  skip
  refine W_region rfl ?_
  refine WL_is (X_move rfl rfl) rfl rfl rfl ?_
  refine WL_is (X_assign rfl rfl) rfl rfl rfl ?_
  refine WL_is (X_assign rfl rfl) rfl rfl rfl ?_
  (repeat (first | refine WL_nil ?_ | refine Then_normal ?_ | refine W_ret ?_ | refine Then_ret ?_))
  refine Body_end rfl rfl rfl (SubR.none _) ⟨rfl, rfl⟩
theorem closeN_fn (h : PH) (fd : Int) : Does Try.prog 15 [.pointer none, .int .i64 fd] [] h (Ret fun r R' _ => r = .tuple #[fileV zeroF, .bool false, .int .i64 1] ∧ R' = []) := by
  refine Does_of_W Try.func15 rfl (n := 34) rfl rfl (by simp only [argE, Nat.reduceAdd] <;> rfl) ?_
  (repeat (first | refine W_seq ?_))
  skip
  refine W_region rfl ?_
  (refine WL_alloc rfl rfl rfl rfl rfl rfl ?_; intro b_)
  refine WL_is (X_assign rfl rfl) rfl rfl rfl ?_
  refine WL_is (X_assign rfl rfl) rfl rfl rfl ?_
  (repeat (first | refine WL_nil ?_ | refine Then_normal ?_ | refine W_seq ?_))
  skip
  refine W_region rfl ?_
  refine WL_is (X_move rfl rfl) rfl rfl rfl ?_
  refine WL_is (X_move rfl rfl) rfl rfl rfl ?_
  refine WL_callR [] _ rfl rfl rfl Try.func24 rfl rfl rfl rfl (.refl _) (file_nil h fd) ?_
  rintro _ _ h hl_ ⟨rfl, rfl⟩
  simp only [List.nil_append]
  refine WL_is (X_move rfl rfl) rfl rfl rfl ?_
  refine WL_is (X_extract rfl rfl rfl) rfl rfl rfl ?_
  refine WL_is (X_extract rfl rfl rfl) rfl rfl rfl ?_
  refine WL_is (X_assign rfl rfl) rfl rfl rfl ?_
  refine WL_is (X_assign rfl rfl) rfl rfl rfl ?_
  (repeat (first | refine WL_nil ?_ | refine Then_normal ?_ | refine W_seq ?_))
  skip
  refine W_region rfl ?_
  refine WL_is (X_move rfl rfl) rfl rfl rfl ?_
  refine WL_is (X_neq_t rfl rfl rfl (by omega)) rfl rfl rfl ?_
  (repeat (first | refine WL_nil ?_ | refine Then_normal ?_ | refine W_seq ?_ | refine W_true rfl ?_))
  skip
  refine W_region rfl ?_
  refine WL_is (X_loadA rfl rfl (by exact idx0) rfl rfl rfl) rfl rfl rfl ?_
  refine WL_is (X_move rfl rfl) rfl rfl rfl ?_
  refine WL_store rfl rfl rfl (by exact idx0) rfl rfl rfl rfl rfl rfl rfl rfl rfl ?_
  refine WL_is (X_assign rfl rfl) rfl rfl rfl ?_
  refine WL_is (X_assign rfl rfl) rfl rfl rfl ?_
  (repeat (first | refine WL_nil ?_ | refine Then_normal ?_ | refine W_ret ?_ | refine Then_ret ?_))
  refine Body_vals (.cons (.cellA rfl idx0 rfl rfl rfl) (.cons (.tmp rfl) (.cons (.tmp rfl) .nil))) rfl ?_
  exact UpdE.sub (SubR.none _) ⟨rfl, rfl⟩
set_option maxHeartbeats 1000000 in
theorem nil_law (h : PH) (f : FileD) (fd off : Int) : Does Try.prog 6 [fileV f, .int .i64 fd, .int .i64 off] [] h (Ret fun r _ _ => r = .bool true) := by
  have e1 := openN_fn h f
  unfold fileV at *
  refine Does_of_W Try.func6 rfl (n := 94) rfl rfl (by simp only [argE, Nat.reduceAdd] <;> rfl) ?_
  (repeat (first | refine W_seq ?_))
  skip
  refine W_region rfl ?_
  (refine WL_box rfl rfl rfl rfl rfl rfl ?_; intro b_)
  refine WL_is (X_assign rfl rfl) rfl rfl rfl ?_
  (repeat (first | refine WL_nil ?_ | refine Then_normal ?_ | refine W_seq ?_))
  skip
  refine W_region rfl ?_
  refine WL_is (X_assign rfl rfl) rfl rfl rfl ?_
  (repeat (first | refine WL_nil ?_ | refine Then_normal ?_ | refine W_seq ?_))
  skip
  refine W_region rfl ?_
  refine WL_is (X_move rfl rfl) rfl rfl rfl ?_
  refine WL_is (X_loadA rfl rfl (by exact idx0) rfl rfl rfl) rfl rfl rfl ?_
  refine WL_callR [] _ rfl rfl rfl Try.func9 rfl rfl rfl rfl (.refl _) e1 ?_
  rintro _ _ h hl_ ⟨rfl, rfl⟩
  simp only [List.nil_append]
  refine WL_is (X_move rfl rfl) rfl rfl rfl ?_
  refine WL_is (X_extract rfl rfl rfl) rfl rfl rfl ?_
  refine WL_is (X_extract rfl rfl rfl) rfl rfl rfl ?_
  refine WL_is (X_assign rfl rfl) rfl rfl rfl ?_
  refine WL_is (X_assign rfl rfl) rfl rfl rfl ?_
  (repeat (first | refine WL_nil ?_ | refine Then_normal ?_ | refine W_seq ?_))
  skip
  refine W_region rfl ?_
  refine WL_is (X_move rfl rfl) rfl rfl rfl ?_
  refine WL_is (X_move rfl rfl) rfl rfl rfl ?_
  refine WL_callR [] _ rfl rfl rfl Try.func17 rfl rfl rfl rfl (.refl _) (getN_fn h fd) ?_
  rintro _ _ h hl_ ⟨rfl, rfl⟩
  simp only [List.nil_append, fileV]
  refine WL_is (X_move rfl rfl) rfl rfl rfl ?_
  refine WL_is (X_extract rfl rfl rfl) rfl rfl rfl ?_
  refine WL_is (X_extract rfl rfl rfl) rfl rfl rfl ?_
  (refine WL_alloc rfl rfl rfl rfl rfl rfl ?_; intro b_)
  refine WL_store rfl rfl rfl (by exact idx0) rfl rfl rfl rfl rfl rfl rfl rfl rfl ?_
  refine WL_is (X_assign rfl rfl) rfl rfl rfl ?_
  (repeat (first | refine WL_nil ?_ | refine Then_normal ?_ | refine W_seq ?_))
  skip
  refine W_region rfl ?_
  refine WL_is (X_move rfl rfl) rfl rfl rfl ?_
  refine WL_is (X_move rfl rfl) rfl rfl rfl ?_
  refine WL_callR [] _ rfl rfl rfl Try.func13 rfl rfl rfl rfl (.refl _) (dupN_fn h fd) ?_
  rintro _ _ h hl_ ⟨rfl, rfl⟩
  simp only [List.nil_append]
  refine WL_is (X_move rfl rfl) rfl rfl rfl ?_
  refine WL_is (X_extract rfl rfl rfl) rfl rfl rfl ?_
  refine WL_is (X_extract rfl rfl rfl) rfl rfl rfl ?_
  refine WL_is (X_assign rfl rfl) rfl rfl rfl ?_
  refine WL_is (X_assign rfl rfl) rfl rfl rfl ?_
  (repeat (first | refine WL_nil ?_ | refine Then_normal ?_ | refine W_seq ?_))
  skip
  refine W_region rfl ?_
  refine WL_is (X_move rfl rfl) rfl rfl rfl ?_
  refine WL_is (X_move rfl rfl) rfl rfl rfl ?_
  refine WL_callR [] _ rfl rfl rfl Try.func15 rfl rfl rfl rfl (.refl _) (closeN_fn h fd) ?_
  rintro _ _ h hl_ ⟨rfl, rfl⟩
  simp only [List.nil_append, fileV]
  refine WL_is (X_move rfl rfl) rfl rfl rfl ?_
  refine WL_is (X_extract rfl rfl rfl) rfl rfl rfl ?_
  refine WL_is (X_extract rfl rfl rfl) rfl rfl rfl ?_
  refine WL_is (X_extract rfl rfl rfl) rfl rfl rfl ?_
  (refine WL_alloc rfl rfl rfl rfl rfl rfl ?_; intro b_)
  refine WL_store rfl rfl rfl (by exact idx0) rfl rfl rfl rfl rfl rfl rfl rfl rfl ?_
  refine WL_is (X_assign rfl rfl) rfl rfl rfl ?_
  refine WL_is (X_assign rfl rfl) rfl rfl rfl ?_
  (repeat (first | refine WL_nil ?_ | refine Then_normal ?_ | refine W_seq ?_))
  skip
  refine W_region rfl ?_
  refine WL_is (X_move rfl rfl) rfl rfl rfl ?_
  refine WL_is (X_eql_t rfl rfl rfl (by omega)) rfl rfl rfl ?_
  refine WL_is (X_move rfl rfl) rfl rfl rfl ?_
  refine WL_is (X_move rfl rfl) rfl rfl rfl ?_
  refine WL_is (X_eql_t rfl rfl rfl (by omega)) rfl rfl rfl ?_
  refine WL_is (X_pick_t rfl rfl rfl) rfl rfl rfl ?_
  refine WL_is (X_move rfl rfl) rfl rfl rfl ?_
  refine WL_is (X_loadA rfl rfl (by exact idx1) rfl rfl rfl) rfl rfl rfl ?_
  refine WL_is (X_build rfl rfl rfl) rfl rfl rfl ?_
  refine WL_is (X_eqA 8 heldOk guardOk rfl rfl rfl rfl rfl rfl rfl) rfl rfl rfl ?_
  refine WL_is (X_pick_t rfl rfl rfl) rfl rfl rfl ?_
  refine WL_is (X_move rfl rfl) rfl rfl rfl ?_
  refine WL_is (X_move rfl rfl) rfl rfl rfl ?_
  refine WL_is (X_eql_t rfl rfl rfl (by omega)) rfl rfl rfl ?_
  refine WL_is (X_pick_t rfl rfl rfl) rfl rfl rfl ?_
  refine WL_is (X_move rfl rfl) rfl rfl rfl ?_
  refine WL_is (X_move rfl rfl) rfl rfl rfl ?_
  refine WL_is (X_move rfl rfl) rfl rfl rfl ?_
  refine WL_is (X_move rfl rfl) rfl rfl rfl ?_
  try refine WL_off rfl rfl rfl ?_
  refine WL_callR [] _ rfl rfl rfl Try.func11 rfl rfl rfl rfl (.refl _) (moveN_fn h fd off) ?_
  rintro _ _ h hl_ ⟨rfl, rfl⟩
  simp only [List.nil_append]
  refine WL_is (X_eql_t rfl rfl rfl (by omega)) rfl rfl rfl ?_
  refine WL_is (X_pick_t rfl rfl rfl) rfl rfl rfl ?_
  refine WL_is (X_move rfl rfl) rfl rfl rfl ?_
  refine WL_is (X_move rfl rfl) rfl rfl rfl ?_
  refine WL_is (X_eql_t rfl rfl rfl (by omega)) rfl rfl rfl ?_
  refine WL_is (X_pick_t rfl rfl rfl) rfl rfl rfl ?_
  refine WL_is (X_move rfl rfl) rfl rfl rfl ?_
  refine WL_is (X_move rfl rfl) rfl rfl rfl ?_
  refine WL_is (X_eql_t rfl rfl rfl (by omega)) rfl rfl rfl ?_
  refine WL_is (X_pick_t rfl rfl rfl) rfl rfl rfl ?_
  refine WL_is (X_move rfl rfl) rfl rfl rfl ?_
  refine WL_is (X_loadA rfl rfl (by exact idx0) rfl rfl rfl) rfl rfl rfl ?_
  refine WL_is (X_build rfl rfl rfl) rfl rfl rfl ?_
  refine WL_is (X_eqA 8 heldOk guardOk rfl rfl rfl rfl rfl rfl rfl) rfl rfl rfl ?_
  refine WL_is (X_pick_t rfl rfl rfl) rfl rfl rfl ?_
  refine WL_is (X_move rfl rfl) rfl rfl rfl ?_
  refine WL_is (X_move rfl rfl) rfl rfl rfl ?_
  refine WL_is (X_not rfl rfl) rfl rfl rfl ?_
  refine WL_is (X_pick_t rfl rfl rfl) rfl rfl rfl ?_
  refine WL_is (X_move rfl rfl) rfl rfl rfl ?_
  refine WL_is (X_move rfl rfl) rfl rfl rfl ?_
  refine WL_is (X_eql_t rfl rfl rfl (by omega)) rfl rfl rfl ?_
  refine WL_is (X_pick_t rfl rfl rfl) rfl rfl rfl ?_
  refine WL_is (X_move rfl rfl) rfl rfl rfl ?_
  refine WL_is (X_move rfl rfl) rfl rfl rfl ?_
  try refine WL_off rfl rfl rfl ?_
  refine WL_callR [] _ rfl rfl rfl Try.func20 rfl rfl rfl rfl (.refl _) (list_nil h) ?_
  rintro _ _ h hl_ ⟨rfl, rfl⟩
  simp only [List.nil_append]
  have al := alive_fn h
  refine WL_is (X_len rfl rfl rfl) rfl rfl rfl ?_
  refine WL_is (X_eql_t rfl rfl rfl (by omega)) rfl rfl rfl ?_
  refine WL_is (X_pick_t rfl rfl rfl) rfl rfl rfl ?_
  refine WL_is (X_move rfl rfl) rfl rfl rfl ?_
  refine WL_is (X_callv rfl rfl rfl Try.func7 rfl (by assumption)) rfl rfl rfl ?_
  refine WL_is (X_pick_t rfl rfl rfl) rfl rfl rfl ?_
  refine WL_is (X_assign rfl rfl) rfl rfl rfl ?_
  (repeat (first | refine WL_nil ?_ | refine Then_normal ?_ | refine W_ret ?_))
  refine Body_end rfl rfl rfl (SubR.none _) ?_
  rfl
end Go.Proofs.Ytmicilnmphkpmaa
