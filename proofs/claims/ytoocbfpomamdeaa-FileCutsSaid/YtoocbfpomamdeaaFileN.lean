/- Files: the law on needs and pieces. -/
import Derived.Test.YtoocbfpomamdeaaFileM
namespace Go.Proofs.Ytoocbfpomamdeaa
set_option maxRecDepth 4000
open Go Go.Par PH
theorem needL_len (m : List Int) (off n : Int) : (needL m off n).length ≤ 32 := by
  unfold needL; split
  · exact holesTo_len _ _ _ _
  · simp
theorem pcL_len (m : List Int) (off : Int) (s : ByteArray) : (pcL m off s).length ≤ s.size + 8 := by
  unfold pcL; split
  · rw [pcsTo_len]; exact cntP_le _ _
  · simp
attribute [local irreducible] W WL Does Exec Body Then inBlk RG WR row obj pblk
set_option maxHeartbeats 2000000 in
theorem needs_law (h : PH) (m : List Int) (v : Value) (off n : Int) (s : ByteArray) (hv : Sl encI 1 h v m) : Does Try.prog 3 [v, .int .i64 off, .int .i64 n, .string s] [] h (Ret fun r _ _ => r = .bool true) := by
  have ha := fun h => alive_fn h
  obtain ⟨va, vc, rfl⟩ := hv.shape
  refine Does_of_W Try.func3 rfl (n := 101) rfl rfl (by simp only [argE, Nat.reduceAdd] <;> rfl) ?_
  by_cases h1 : (m.length : Int) > 100
  · have ha := ha h
    (repeat (first | refine WL_nil ?_ | refine WR_succ ?_ | refine Then_normal ?_ | refine W_seq ?_ | refine W_skip ?_ | refine W_ret ?_ | refine W_exit ?_ | refine W_block ?_ | refine Then_ret ?_ | refine Then_panic ?_ | refine inBlk_panic ?_ | refine Then_exit ?_ | refine inBlk_ret ?_ | refine inBlk_normal ?_ | refine inBlk_here ?_ | refine inBlk_out rfl ?_ | refine W_scope ?_ | refine W_label ?_ | refine noG_ret ?_ | refine noG_normal ?_ | refine noG_exit ?_ | refine W_true rfl ?_ | refine W_false rfl ?_))
    (repeat (first | refine WL_nil ?_ | refine WR_succ ?_ | refine Then_normal ?_ | refine W_seq ?_ | refine W_skip ?_ | refine W_ret ?_ | refine W_exit ?_ | refine W_block ?_ | refine Then_ret ?_ | refine Then_panic ?_ | refine inBlk_panic ?_ | refine Then_exit ?_ | refine inBlk_ret ?_ | refine inBlk_normal ?_ | refine inBlk_here ?_ | refine inBlk_out rfl ?_ | refine W_scope ?_ | refine W_label ?_ | refine noG_ret ?_ | refine noG_normal ?_ | refine noG_exit ?_ | refine W_true rfl ?_ | refine W_false rfl ?_))
    refine W_region rfl ?_
    (first | refine WL_is (X_assign rfl rfl) rfl rfl rfl ?_)
    (repeat (first | refine WL_nil ?_ | refine WR_succ ?_ | refine Then_normal ?_ | refine W_seq ?_ | refine W_skip ?_ | refine W_ret ?_ | refine W_exit ?_ | refine W_block ?_ | refine Then_ret ?_ | refine Then_panic ?_ | refine inBlk_panic ?_ | refine Then_exit ?_ | refine inBlk_ret ?_ | refine inBlk_normal ?_ | refine inBlk_here ?_ | refine inBlk_out rfl ?_ | refine W_scope ?_ | refine W_label ?_ | refine noG_ret ?_ | refine noG_normal ?_ | refine noG_exit ?_ | refine W_true rfl ?_ | refine W_false rfl ?_))
    (repeat (first | refine WL_nil ?_ | refine WR_succ ?_ | refine Then_normal ?_ | refine W_seq ?_ | refine W_skip ?_ | refine W_ret ?_ | refine W_exit ?_ | refine W_block ?_ | refine Then_ret ?_ | refine Then_panic ?_ | refine inBlk_panic ?_ | refine Then_exit ?_ | refine inBlk_ret ?_ | refine inBlk_normal ?_ | refine inBlk_here ?_ | refine inBlk_out rfl ?_ | refine W_scope ?_ | refine W_label ?_ | refine noG_ret ?_ | refine noG_normal ?_ | refine noG_exit ?_ | refine W_true rfl ?_ | refine W_false rfl ?_))
    refine W_region rfl ?_
    (first | refine WL_is (X_move rfl rfl) rfl rfl rfl ?_)
    (first | refine WL_is (X_len_sl rfl rfl rfl (by assumption)) rfl rfl rfl ?_ | refine WL_is (X_len rfl rfl rfl) rfl rfl rfl ?_ | refine WL_is (X_len_str rfl rfl rfl) rfl rfl rfl ?_)
    (first | refine WL_is (X_gtr_t rfl rfl rfl (by omega)) rfl rfl rfl ?_ | refine WL_is (X_gtr_f rfl rfl rfl (by omega)) rfl rfl rfl ?_ | refine WL_is (X_gtr rfl rfl rfl) rfl rfl rfl ?_)
    (first | refine WL_is (X_move rfl rfl) rfl rfl rfl ?_)
    (first | refine WL_off rfl rfl rfl ?_ | refine WL_is (X_move rfl rfl) rfl rfl rfl ?_)
    (first | refine WL_off rfl rfl rfl ?_ | refine WL_is (X_len_sl rfl rfl rfl (by assumption)) rfl rfl rfl ?_ | refine WL_is (X_len rfl rfl rfl) rfl rfl rfl ?_ | refine WL_is (X_len_str rfl rfl rfl) rfl rfl rfl ?_)
    (first | refine WL_off rfl rfl rfl ?_ | refine WL_is (X_gtr_t rfl rfl rfl (by omega)) rfl rfl rfl ?_ | refine WL_is (X_gtr_f rfl rfl rfl (by omega)) rfl rfl rfl ?_ | refine WL_is (X_gtr rfl rfl rfl) rfl rfl rfl ?_)
    (first | refine WL_is (X_pick_t rfl rfl rfl) rfl rfl rfl ?_ | refine WL_is (X_pick_f rfl rfl rfl) rfl rfl rfl ?_)
    (repeat (first | refine WL_nil ?_ | refine WR_succ ?_ | refine Then_normal ?_ | refine W_seq ?_ | refine W_skip ?_ | refine W_ret ?_ | refine W_exit ?_ | refine W_block ?_ | refine Then_ret ?_ | refine Then_panic ?_ | refine inBlk_panic ?_ | refine Then_exit ?_ | refine inBlk_ret ?_ | refine inBlk_normal ?_ | refine inBlk_here ?_ | refine inBlk_out rfl ?_ | refine W_scope ?_ | refine W_label ?_ | refine noG_ret ?_ | refine noG_normal ?_ | refine noG_exit ?_ | refine W_true rfl ?_ | refine W_false rfl ?_))
    (repeat (first | refine WL_nil ?_ | refine WR_succ ?_ | refine Then_normal ?_ | refine W_seq ?_ | refine W_skip ?_ | refine W_ret ?_ | refine W_exit ?_ | refine W_block ?_ | refine Then_ret ?_ | refine Then_panic ?_ | refine inBlk_panic ?_ | refine Then_exit ?_ | refine inBlk_ret ?_ | refine inBlk_normal ?_ | refine inBlk_here ?_ | refine inBlk_out rfl ?_ | refine W_scope ?_ | refine W_label ?_ | refine noG_ret ?_ | refine noG_normal ?_ | refine noG_exit ?_ | refine W_true rfl ?_ | refine W_false rfl ?_))
    refine W_region rfl ?_
    (first | refine WL_is (X_callv rfl rfl rfl Try.func8 rfl (by assumption)) rfl rfl rfl ?_)
    (first | refine WL_is (X_assign rfl rfl) rfl rfl rfl ?_)
    (repeat (first | refine WL_nil ?_ | refine WR_succ ?_ | refine Then_normal ?_ | refine W_seq ?_ | refine W_skip ?_ | refine W_ret ?_ | refine W_exit ?_ | refine W_block ?_ | refine Then_ret ?_ | refine Then_panic ?_ | refine inBlk_panic ?_ | refine Then_exit ?_ | refine inBlk_ret ?_ | refine inBlk_normal ?_ | refine inBlk_here ?_ | refine inBlk_out rfl ?_ | refine W_scope ?_ | refine W_label ?_ | refine noG_ret ?_ | refine noG_normal ?_ | refine noG_exit ?_ | refine W_true rfl ?_ | refine W_false rfl ?_))
    refine Body_end rfl rfl rfl (SubR.none _) ?_
    rfl
  by_cases h2 : (s.size : Int) > 2000
  · have ha := ha h
    (repeat (first | refine WL_nil ?_ | refine WR_succ ?_ | refine Then_normal ?_ | refine W_seq ?_ | refine W_skip ?_ | refine W_ret ?_ | refine W_exit ?_ | refine W_block ?_ | refine Then_ret ?_ | refine Then_panic ?_ | refine inBlk_panic ?_ | refine Then_exit ?_ | refine inBlk_ret ?_ | refine inBlk_normal ?_ | refine inBlk_here ?_ | refine inBlk_out rfl ?_ | refine W_scope ?_ | refine W_label ?_ | refine noG_ret ?_ | refine noG_normal ?_ | refine noG_exit ?_ | refine W_true rfl ?_ | refine W_false rfl ?_))
    (repeat (first | refine WL_nil ?_ | refine WR_succ ?_ | refine Then_normal ?_ | refine W_seq ?_ | refine W_skip ?_ | refine W_ret ?_ | refine W_exit ?_ | refine W_block ?_ | refine Then_ret ?_ | refine Then_panic ?_ | refine inBlk_panic ?_ | refine Then_exit ?_ | refine inBlk_ret ?_ | refine inBlk_normal ?_ | refine inBlk_here ?_ | refine inBlk_out rfl ?_ | refine W_scope ?_ | refine W_label ?_ | refine noG_ret ?_ | refine noG_normal ?_ | refine noG_exit ?_ | refine W_true rfl ?_ | refine W_false rfl ?_))
    refine W_region rfl ?_
    (first | refine WL_is (X_assign rfl rfl) rfl rfl rfl ?_)
    (repeat (first | refine WL_nil ?_ | refine WR_succ ?_ | refine Then_normal ?_ | refine W_seq ?_ | refine W_skip ?_ | refine W_ret ?_ | refine W_exit ?_ | refine W_block ?_ | refine Then_ret ?_ | refine Then_panic ?_ | refine inBlk_panic ?_ | refine Then_exit ?_ | refine inBlk_ret ?_ | refine inBlk_normal ?_ | refine inBlk_here ?_ | refine inBlk_out rfl ?_ | refine W_scope ?_ | refine W_label ?_ | refine noG_ret ?_ | refine noG_normal ?_ | refine noG_exit ?_ | refine W_true rfl ?_ | refine W_false rfl ?_))
    (repeat (first | refine WL_nil ?_ | refine WR_succ ?_ | refine Then_normal ?_ | refine W_seq ?_ | refine W_skip ?_ | refine W_ret ?_ | refine W_exit ?_ | refine W_block ?_ | refine Then_ret ?_ | refine Then_panic ?_ | refine inBlk_panic ?_ | refine Then_exit ?_ | refine inBlk_ret ?_ | refine inBlk_normal ?_ | refine inBlk_here ?_ | refine inBlk_out rfl ?_ | refine W_scope ?_ | refine W_label ?_ | refine noG_ret ?_ | refine noG_normal ?_ | refine noG_exit ?_ | refine W_true rfl ?_ | refine W_false rfl ?_))
    refine W_region rfl ?_
    (first | refine WL_is (X_move rfl rfl) rfl rfl rfl ?_)
    (first | refine WL_is (X_len_sl rfl rfl rfl (by assumption)) rfl rfl rfl ?_ | refine WL_is (X_len rfl rfl rfl) rfl rfl rfl ?_ | refine WL_is (X_len_str rfl rfl rfl) rfl rfl rfl ?_)
    (first | refine WL_is (X_gtr_t rfl rfl rfl (by omega)) rfl rfl rfl ?_ | refine WL_is (X_gtr_f rfl rfl rfl (by omega)) rfl rfl rfl ?_ | refine WL_is (X_gtr rfl rfl rfl) rfl rfl rfl ?_)
    (first | refine WL_is (X_move rfl rfl) rfl rfl rfl ?_)
    (first | refine WL_off rfl rfl rfl ?_ | refine WL_is (X_move rfl rfl) rfl rfl rfl ?_)
    (first | refine WL_off rfl rfl rfl ?_ | refine WL_is (X_len_sl rfl rfl rfl (by assumption)) rfl rfl rfl ?_ | refine WL_is (X_len rfl rfl rfl) rfl rfl rfl ?_ | refine WL_is (X_len_str rfl rfl rfl) rfl rfl rfl ?_)
    (first | refine WL_off rfl rfl rfl ?_ | refine WL_is (X_gtr_t rfl rfl rfl (by omega)) rfl rfl rfl ?_ | refine WL_is (X_gtr_f rfl rfl rfl (by omega)) rfl rfl rfl ?_ | refine WL_is (X_gtr rfl rfl rfl) rfl rfl rfl ?_)
    (first | refine WL_is (X_pick_t rfl rfl rfl) rfl rfl rfl ?_ | refine WL_is (X_pick_f rfl rfl rfl) rfl rfl rfl ?_)
    (repeat (first | refine WL_nil ?_ | refine WR_succ ?_ | refine Then_normal ?_ | refine W_seq ?_ | refine W_skip ?_ | refine W_ret ?_ | refine W_exit ?_ | refine W_block ?_ | refine Then_ret ?_ | refine Then_panic ?_ | refine inBlk_panic ?_ | refine Then_exit ?_ | refine inBlk_ret ?_ | refine inBlk_normal ?_ | refine inBlk_here ?_ | refine inBlk_out rfl ?_ | refine W_scope ?_ | refine W_label ?_ | refine noG_ret ?_ | refine noG_normal ?_ | refine noG_exit ?_ | refine W_true rfl ?_ | refine W_false rfl ?_))
    (repeat (first | refine WL_nil ?_ | refine WR_succ ?_ | refine Then_normal ?_ | refine W_seq ?_ | refine W_skip ?_ | refine W_ret ?_ | refine W_exit ?_ | refine W_block ?_ | refine Then_ret ?_ | refine Then_panic ?_ | refine inBlk_panic ?_ | refine Then_exit ?_ | refine inBlk_ret ?_ | refine inBlk_normal ?_ | refine inBlk_here ?_ | refine inBlk_out rfl ?_ | refine W_scope ?_ | refine W_label ?_ | refine noG_ret ?_ | refine noG_normal ?_ | refine noG_exit ?_ | refine W_true rfl ?_ | refine W_false rfl ?_))
    refine W_region rfl ?_
    (first | refine WL_is (X_callv rfl rfl rfl Try.func8 rfl (by assumption)) rfl rfl rfl ?_)
    (first | refine WL_is (X_assign rfl rfl) rfl rfl rfl ?_)
    (repeat (first | refine WL_nil ?_ | refine WR_succ ?_ | refine Then_normal ?_ | refine W_seq ?_ | refine W_skip ?_ | refine W_ret ?_ | refine W_exit ?_ | refine W_block ?_ | refine Then_ret ?_ | refine Then_panic ?_ | refine inBlk_panic ?_ | refine Then_exit ?_ | refine inBlk_ret ?_ | refine inBlk_normal ?_ | refine inBlk_here ?_ | refine inBlk_out rfl ?_ | refine W_scope ?_ | refine W_label ?_ | refine noG_ret ?_ | refine noG_normal ?_ | refine noG_exit ?_ | refine W_true rfl ?_ | refine W_false rfl ?_))
    refine Body_end rfl rfl rfl (SubR.none _) ?_
    rfl
  (repeat (first | refine WL_nil ?_ | refine WR_succ ?_ | refine Then_normal ?_ | refine W_seq ?_ | refine W_skip ?_ | refine W_ret ?_ | refine W_exit ?_ | refine W_block ?_ | refine Then_ret ?_ | refine Then_panic ?_ | refine inBlk_panic ?_ | refine Then_exit ?_ | refine inBlk_ret ?_ | refine inBlk_normal ?_ | refine inBlk_here ?_ | refine inBlk_out rfl ?_ | refine W_scope ?_ | refine W_label ?_ | refine noG_ret ?_ | refine noG_normal ?_ | refine noG_exit ?_ | refine W_true rfl ?_ | refine W_false rfl ?_))
  (repeat (first | refine WL_nil ?_ | refine WR_succ ?_ | refine Then_normal ?_ | refine W_seq ?_ | refine W_skip ?_ | refine W_ret ?_ | refine W_exit ?_ | refine W_block ?_ | refine Then_ret ?_ | refine Then_panic ?_ | refine inBlk_panic ?_ | refine Then_exit ?_ | refine inBlk_ret ?_ | refine inBlk_normal ?_ | refine inBlk_here ?_ | refine inBlk_out rfl ?_ | refine W_scope ?_ | refine W_label ?_ | refine noG_ret ?_ | refine noG_normal ?_ | refine noG_exit ?_ | refine W_true rfl ?_ | refine W_false rfl ?_))
  refine W_region rfl ?_
  (first | refine WL_is (X_assign rfl rfl) rfl rfl rfl ?_)
  (repeat (first | refine WL_nil ?_ | refine WR_succ ?_ | refine Then_normal ?_ | refine W_seq ?_ | refine W_skip ?_ | refine W_ret ?_ | refine W_exit ?_ | refine W_block ?_ | refine Then_ret ?_ | refine Then_panic ?_ | refine inBlk_panic ?_ | refine Then_exit ?_ | refine inBlk_ret ?_ | refine inBlk_normal ?_ | refine inBlk_here ?_ | refine inBlk_out rfl ?_ | refine W_scope ?_ | refine W_label ?_ | refine noG_ret ?_ | refine noG_normal ?_ | refine noG_exit ?_ | refine W_true rfl ?_ | refine W_false rfl ?_))
  (repeat (first | refine WL_nil ?_ | refine WR_succ ?_ | refine Then_normal ?_ | refine W_seq ?_ | refine W_skip ?_ | refine W_ret ?_ | refine W_exit ?_ | refine W_block ?_ | refine Then_ret ?_ | refine Then_panic ?_ | refine inBlk_panic ?_ | refine Then_exit ?_ | refine inBlk_ret ?_ | refine inBlk_normal ?_ | refine inBlk_here ?_ | refine inBlk_out rfl ?_ | refine W_scope ?_ | refine W_label ?_ | refine noG_ret ?_ | refine noG_normal ?_ | refine noG_exit ?_ | refine W_true rfl ?_ | refine W_false rfl ?_))
  refine W_region rfl ?_
  (first | refine WL_is (X_move rfl rfl) rfl rfl rfl ?_)
  (first | refine WL_is (X_len_sl rfl rfl rfl (by assumption)) rfl rfl rfl ?_ | refine WL_is (X_len rfl rfl rfl) rfl rfl rfl ?_ | refine WL_is (X_len_str rfl rfl rfl) rfl rfl rfl ?_)
  (first | refine WL_is (X_gtr_t rfl rfl rfl (by omega)) rfl rfl rfl ?_ | refine WL_is (X_gtr_f rfl rfl rfl (by omega)) rfl rfl rfl ?_ | refine WL_is (X_gtr rfl rfl rfl) rfl rfl rfl ?_)
  (first | refine WL_is (X_move rfl rfl) rfl rfl rfl ?_)
  (first | refine WL_off rfl rfl rfl ?_ | refine WL_is (X_move rfl rfl) rfl rfl rfl ?_)
  (first | refine WL_off rfl rfl rfl ?_ | refine WL_is (X_len_sl rfl rfl rfl (by assumption)) rfl rfl rfl ?_ | refine WL_is (X_len rfl rfl rfl) rfl rfl rfl ?_ | refine WL_is (X_len_str rfl rfl rfl) rfl rfl rfl ?_)
  (first | refine WL_off rfl rfl rfl ?_ | refine WL_is (X_gtr_t rfl rfl rfl (by omega)) rfl rfl rfl ?_ | refine WL_is (X_gtr_f rfl rfl rfl (by omega)) rfl rfl rfl ?_ | refine WL_is (X_gtr rfl rfl rfl) rfl rfl rfl ?_)
  (first | refine WL_is (X_pick_t rfl rfl rfl) rfl rfl rfl ?_ | refine WL_is (X_pick_f rfl rfl rfl) rfl rfl rfl ?_)
  (repeat (first | refine WL_nil ?_ | refine WR_succ ?_ | refine Then_normal ?_ | refine W_seq ?_ | refine W_skip ?_ | refine W_ret ?_ | refine W_exit ?_ | refine W_block ?_ | refine Then_ret ?_ | refine Then_panic ?_ | refine inBlk_panic ?_ | refine Then_exit ?_ | refine inBlk_ret ?_ | refine inBlk_normal ?_ | refine inBlk_here ?_ | refine inBlk_out rfl ?_ | refine W_scope ?_ | refine W_label ?_ | refine noG_ret ?_ | refine noG_normal ?_ | refine noG_exit ?_ | refine W_true rfl ?_ | refine W_false rfl ?_))
  (repeat (first | refine WL_nil ?_ | refine WR_succ ?_ | refine Then_normal ?_ | refine W_seq ?_ | refine W_skip ?_ | refine W_ret ?_ | refine W_exit ?_ | refine W_block ?_ | refine Then_ret ?_ | refine Then_panic ?_ | refine inBlk_panic ?_ | refine Then_exit ?_ | refine inBlk_ret ?_ | refine inBlk_normal ?_ | refine inBlk_here ?_ | refine inBlk_out rfl ?_ | refine W_scope ?_ | refine W_label ?_ | refine noG_ret ?_ | refine noG_normal ?_ | refine noG_exit ?_ | refine W_true rfl ?_ | refine W_false rfl ?_))
  refine W_region rfl ?_
  (first | refine WL_is (X_move rfl rfl) rfl rfl rfl ?_)
  refine WL_append_nil (enc := encI) rfl rfl rfl elemI rfl (Src.sl hv) (flatI m) (by omega) (by omega) rfl rfl rfl ?_
  intro v'
  refine WL_updE (UpdE.row (enc := encI) 0 rfl (lenI _)) ?_
  rintro _ H1 L1 ⟨rfl, ho⟩
  simp only [List.eraseIdx_cons_zero]
  obtain ⟨oa, oc, rfl⟩ := ho.shape
  (first | refine WL_is (X_assign rfl rfl) rfl rfl rfl ?_)
  (repeat (first | refine WL_nil ?_ | refine WR_succ ?_ | refine Then_normal ?_ | refine W_seq ?_ | refine W_skip ?_ | refine W_ret ?_ | refine W_exit ?_ | refine W_block ?_ | refine Then_ret ?_ | refine Then_panic ?_ | refine inBlk_panic ?_ | refine Then_exit ?_ | refine inBlk_ret ?_ | refine inBlk_normal ?_ | refine inBlk_here ?_ | refine inBlk_out rfl ?_ | refine W_scope ?_ | refine W_label ?_ | refine noG_ret ?_ | refine noG_normal ?_ | refine noG_exit ?_ | refine W_true rfl ?_ | refine W_false rfl ?_))
  (repeat (first | refine WL_nil ?_ | refine WR_succ ?_ | refine Then_normal ?_ | refine W_seq ?_ | refine W_skip ?_ | refine W_ret ?_ | refine W_exit ?_ | refine W_block ?_ | refine Then_ret ?_ | refine Then_panic ?_ | refine inBlk_panic ?_ | refine Then_exit ?_ | refine inBlk_ret ?_ | refine inBlk_normal ?_ | refine inBlk_here ?_ | refine inBlk_out rfl ?_ | refine W_scope ?_ | refine W_label ?_ | refine noG_ret ?_ | refine noG_normal ?_ | refine noG_exit ?_ | refine W_true rfl ?_ | refine W_false rfl ?_))
  refine W_region rfl ?_
  (first | refine WL_is (X_move rfl rfl) rfl rfl rfl ?_)
  (first | refine WL_is (X_move rfl rfl) rfl rfl rfl ?_)
  (first | refine WL_is (X_move rfl rfl) rfl rfl rfl ?_)
  refine WL_call rfl rfl rfl Try.func9 rfl rfl rfl rfl (need_fn H1 m _ off n ho (by omega)) ?_
  rintro _ _ H2 L2 ⟨rfl, x1, rfl, s1⟩
  obtain ⟨a1, b1, rfl⟩ := s1.shape
  simp only [List.nil_append]
  (first | refine WL_is (X_move rfl rfl) rfl rfl rfl ?_)
  (first | refine WL_is (X_extract rfl rfl rfl) rfl rfl rfl ?_)
  (first | refine WL_is (X_extract rfl rfl rfl) rfl rfl rfl ?_)
  (first | refine WL_is (X_assign rfl rfl) rfl rfl rfl ?_)
  (first | refine WL_is (X_assign rfl rfl) rfl rfl rfl ?_)
  (repeat (first | refine WL_nil ?_ | refine WR_succ ?_ | refine Then_normal ?_ | refine W_seq ?_ | refine W_skip ?_ | refine W_ret ?_ | refine W_exit ?_ | refine W_block ?_ | refine Then_ret ?_ | refine Then_panic ?_ | refine inBlk_panic ?_ | refine Then_exit ?_ | refine inBlk_ret ?_ | refine inBlk_normal ?_ | refine inBlk_here ?_ | refine inBlk_out rfl ?_ | refine W_scope ?_ | refine W_label ?_ | refine noG_ret ?_ | refine noG_normal ?_ | refine noG_exit ?_ | refine W_true rfl ?_ | refine W_false rfl ?_))
  (repeat (first | refine WL_nil ?_ | refine WR_succ ?_ | refine Then_normal ?_ | refine W_seq ?_ | refine W_skip ?_ | refine W_ret ?_ | refine W_exit ?_ | refine W_block ?_ | refine Then_ret ?_ | refine Then_panic ?_ | refine inBlk_panic ?_ | refine Then_exit ?_ | refine inBlk_ret ?_ | refine inBlk_normal ?_ | refine inBlk_here ?_ | refine inBlk_out rfl ?_ | refine W_scope ?_ | refine W_label ?_ | refine noG_ret ?_ | refine noG_normal ?_ | refine noG_exit ?_ | refine W_true rfl ?_ | refine W_false rfl ?_))
  refine W_region rfl ?_
  (first | refine WL_is (X_move rfl rfl) rfl rfl rfl ?_)
  (first | refine WL_is (X_move rfl rfl) rfl rfl rfl ?_)
  (first | refine WL_is (X_move rfl rfl) rfl rfl rfl ?_)
  refine WL_call rfl rfl rfl Try.func10 rfl rfl rfl rfl (need_ref H2 m _ off n (hv.mono (L1.trans L2)) (by omega)) ?_
  rintro _ _ H3 L3 ⟨rfl, x2, rfl, s2⟩
  obtain ⟨a2, b2, rfl⟩ := s2.shape
  simp only [List.nil_append]
  (first | refine WL_is (X_move rfl rfl) rfl rfl rfl ?_)
  (first | refine WL_is (X_extract rfl rfl rfl) rfl rfl rfl ?_)
  (first | refine WL_is (X_extract rfl rfl rfl) rfl rfl rfl ?_)
  (first | refine WL_is (X_assign rfl rfl) rfl rfl rfl ?_)
  (first | refine WL_is (X_assign rfl rfl) rfl rfl rfl ?_)
  (repeat (first | refine WL_nil ?_ | refine WR_succ ?_ | refine Then_normal ?_ | refine W_seq ?_ | refine W_skip ?_ | refine W_ret ?_ | refine W_exit ?_ | refine W_block ?_ | refine Then_ret ?_ | refine Then_panic ?_ | refine inBlk_panic ?_ | refine Then_exit ?_ | refine inBlk_ret ?_ | refine inBlk_normal ?_ | refine inBlk_here ?_ | refine inBlk_out rfl ?_ | refine W_scope ?_ | refine W_label ?_ | refine noG_ret ?_ | refine noG_normal ?_ | refine noG_exit ?_ | refine W_true rfl ?_ | refine W_false rfl ?_))
  (repeat (first | refine WL_nil ?_ | refine WR_succ ?_ | refine Then_normal ?_ | refine W_seq ?_ | refine W_skip ?_ | refine W_ret ?_ | refine W_exit ?_ | refine W_block ?_ | refine Then_ret ?_ | refine Then_panic ?_ | refine inBlk_panic ?_ | refine Then_exit ?_ | refine inBlk_ret ?_ | refine inBlk_normal ?_ | refine inBlk_here ?_ | refine inBlk_out rfl ?_ | refine W_scope ?_ | refine W_label ?_ | refine noG_ret ?_ | refine noG_normal ?_ | refine noG_exit ?_ | refine W_true rfl ?_ | refine W_false rfl ?_))
  refine W_region rfl ?_
  (first | refine WL_is (X_move rfl rfl) rfl rfl rfl ?_)
  (first | refine WL_is (X_move rfl rfl) rfl rfl rfl ?_)
  (first | refine WL_is (X_move rfl rfl) rfl rfl rfl ?_)
  refine WL_call rfl rfl rfl Try.func11 rfl rfl rfl rfl (pieces_fn H3 m _ off s (ho.mono (L2.trans L3)) (by omega) (by omega)) ?_
  rintro _ _ H4 L4 ⟨rfl, x3, rfl, s3⟩
  obtain ⟨a3, b3, rfl⟩ := s3.shape
  simp only [List.nil_append]
  (first | refine WL_is (X_move rfl rfl) rfl rfl rfl ?_)
  (first | refine WL_is (X_extract rfl rfl rfl) rfl rfl rfl ?_)
  (first | refine WL_is (X_extract rfl rfl rfl) rfl rfl rfl ?_)
  (first | refine WL_is (X_assign rfl rfl) rfl rfl rfl ?_)
  (first | refine WL_is (X_assign rfl rfl) rfl rfl rfl ?_)
  (repeat (first | refine WL_nil ?_ | refine WR_succ ?_ | refine Then_normal ?_ | refine W_seq ?_ | refine W_skip ?_ | refine W_ret ?_ | refine W_exit ?_ | refine W_block ?_ | refine Then_ret ?_ | refine Then_panic ?_ | refine inBlk_panic ?_ | refine Then_exit ?_ | refine inBlk_ret ?_ | refine inBlk_normal ?_ | refine inBlk_here ?_ | refine inBlk_out rfl ?_ | refine W_scope ?_ | refine W_label ?_ | refine noG_ret ?_ | refine noG_normal ?_ | refine noG_exit ?_ | refine W_true rfl ?_ | refine W_false rfl ?_))
  (repeat (first | refine WL_nil ?_ | refine WR_succ ?_ | refine Then_normal ?_ | refine W_seq ?_ | refine W_skip ?_ | refine W_ret ?_ | refine W_exit ?_ | refine W_block ?_ | refine Then_ret ?_ | refine Then_panic ?_ | refine inBlk_panic ?_ | refine Then_exit ?_ | refine inBlk_ret ?_ | refine inBlk_normal ?_ | refine inBlk_here ?_ | refine inBlk_out rfl ?_ | refine W_scope ?_ | refine W_label ?_ | refine noG_ret ?_ | refine noG_normal ?_ | refine noG_exit ?_ | refine W_true rfl ?_ | refine W_false rfl ?_))
  refine W_region rfl ?_
  (first | refine WL_is (X_move rfl rfl) rfl rfl rfl ?_)
  (first | refine WL_is (X_move rfl rfl) rfl rfl rfl ?_)
  (first | refine WL_is (X_move rfl rfl) rfl rfl rfl ?_)
  refine WL_call rfl rfl rfl Try.func12 rfl rfl rfl rfl (pieces_ref H4 m _ off s (hv.mono (L1.trans (L2.trans (L3.trans L4)))) (by omega) (by omega)) ?_
  rintro _ _ H5 L5 ⟨rfl, x4, rfl, s4⟩
  obtain ⟨a4, b4, rfl⟩ := s4.shape
  simp only [List.nil_append]
  (first | refine WL_is (X_move rfl rfl) rfl rfl rfl ?_)
  (first | refine WL_is (X_extract rfl rfl rfl) rfl rfl rfl ?_)
  (first | refine WL_is (X_extract rfl rfl rfl) rfl rfl rfl ?_)
  (first | refine WL_is (X_assign rfl rfl) rfl rfl rfl ?_)
  (first | refine WL_is (X_assign rfl rfl) rfl rfl rfl ?_)
  (repeat (first | refine WL_nil ?_ | refine WR_succ ?_ | refine Then_normal ?_ | refine W_seq ?_ | refine W_skip ?_ | refine W_ret ?_ | refine W_exit ?_ | refine W_block ?_ | refine Then_ret ?_ | refine Then_panic ?_ | refine inBlk_panic ?_ | refine Then_exit ?_ | refine inBlk_ret ?_ | refine inBlk_normal ?_ | refine inBlk_here ?_ | refine inBlk_out rfl ?_ | refine W_scope ?_ | refine W_label ?_ | refine noG_ret ?_ | refine noG_normal ?_ | refine noG_exit ?_ | refine W_true rfl ?_ | refine W_false rfl ?_))
  have hl1 := needL_len m off n
  have hl2 := pcL_len m off s
  have k1 := sameI_ref H5 (needL m off n) (needL m off n) _ _ (s1.mono (L3.trans (L4.trans L5))) (s2.mono (L4.trans L5)) (by omega) (by omega)
  have k3 := sameI_ref H5 m m _ _ (ho.mono (L2.trans (L3.trans (L4.trans L5)))) (hv.mono (L1.trans (L2.trans (L3.trans (L4.trans L5))))) (by omega) (by omega)
  have k4 := ha H5
  rw [decide_eq_true rfl] at k1 k3
  have s3 := s3.mono L5
  clear s1 s2 ho hv
  generalize needE m off n = e1 at *
  generalize pcE m off s = e2 at *
  generalize pcL m off s = L at *
  generalize needL m off n = NL at *
  (repeat (first | refine WL_nil ?_ | refine WR_succ ?_ | refine Then_normal ?_ | refine W_seq ?_ | refine W_skip ?_ | refine W_ret ?_ | refine W_exit ?_ | refine W_block ?_ | refine Then_ret ?_ | refine Then_panic ?_ | refine inBlk_panic ?_ | refine Then_exit ?_ | refine inBlk_ret ?_ | refine inBlk_normal ?_ | refine inBlk_here ?_ | refine inBlk_out rfl ?_ | refine W_scope ?_ | refine W_label ?_ | refine noG_ret ?_ | refine noG_normal ?_ | refine noG_exit ?_ | refine W_true rfl ?_ | refine W_false rfl ?_))
  refine W_region rfl ?_
  (first | refine WL_is (X_move rfl rfl) rfl rfl rfl ?_)
  (first | refine WL_is (X_move rfl rfl) rfl rfl rfl ?_)
  (first | refine WL_is (X_callv rfl rfl rfl Try.func13 rfl (by assumption)) rfl rfl rfl ?_)
  (first | refine WL_is (X_not rfl rfl) rfl rfl rfl ?_)
  (first | refine WL_is (X_move rfl rfl) rfl rfl rfl ?_)
  (first | refine WL_off rfl rfl rfl ?_ | refine WL_is (X_move rfl rfl) rfl rfl rfl ?_)
  (first | refine WL_off rfl rfl rfl ?_ | refine WL_is (X_move rfl rfl) rfl rfl rfl ?_)
  (first | refine WL_off rfl rfl rfl ?_ | refine WL_is (X_neq_t rfl rfl rfl (by omega)) rfl rfl rfl ?_ | refine WL_is (X_neq_f rfl rfl rfl (by omega)) rfl rfl rfl ?_ | refine WL_is (X_neq rfl rfl rfl) rfl rfl rfl ?_ | refine WL_is (X_neB rfl rfl rfl rfl) rfl rfl rfl ?_ | refine WL_is (X_neNil rfl rfl rfl rfl) rfl rfl rfl ?_ | refine WL_is (X_nePn_t rfl rfl rfl rfl) rfl rfl rfl ?_ | refine WL_is (X_nePn_f rfl rfl rfl rfl) rfl rfl rfl ?_ | refine WL_is (X_neS_c rfl rfl rfl (by assumption)) rfl rfl rfl ?_ | refine WL_is (X_neS rfl rfl rfl) rfl rfl rfl ?_ | refine WL_is (X_neA 8 heldOk guardOk rfl rfl rfl rfl rfl rfl rfl) rfl rfl rfl ?_)
  (first | refine WL_is (X_pick_t rfl rfl rfl) rfl rfl rfl ?_ | refine WL_is (X_pick_f rfl rfl rfl) rfl rfl rfl ?_)
  (first | refine WL_is (X_move rfl rfl) rfl rfl rfl ?_)
  (first | refine WL_off rfl rfl rfl ?_ | refine WL_is (X_move rfl rfl) rfl rfl rfl ?_)
  (first | refine WL_off rfl rfl rfl ?_ | refine WL_is (X_move rfl rfl) rfl rfl rfl ?_)
  (first | refine WL_off rfl rfl rfl ?_ | refine WL_is (X_neq_t rfl rfl rfl (by omega)) rfl rfl rfl ?_ | refine WL_is (X_neq_f rfl rfl rfl (by omega)) rfl rfl rfl ?_ | refine WL_is (X_neq rfl rfl rfl) rfl rfl rfl ?_ | refine WL_is (X_neB rfl rfl rfl rfl) rfl rfl rfl ?_ | refine WL_is (X_neNil rfl rfl rfl rfl) rfl rfl rfl ?_ | refine WL_is (X_nePn_t rfl rfl rfl rfl) rfl rfl rfl ?_ | refine WL_is (X_nePn_f rfl rfl rfl rfl) rfl rfl rfl ?_ | refine WL_is (X_neS_c rfl rfl rfl (by assumption)) rfl rfl rfl ?_ | refine WL_is (X_neS rfl rfl rfl) rfl rfl rfl ?_ | refine WL_is (X_neA 8 heldOk guardOk rfl rfl rfl rfl rfl rfl rfl) rfl rfl rfl ?_)
  (first | refine WL_is (X_pick_t rfl rfl rfl) rfl rfl rfl ?_ | refine WL_is (X_pick_f rfl rfl rfl) rfl rfl rfl ?_)
  (first | refine WL_is (X_move rfl rfl) rfl rfl rfl ?_)
  (first | refine WL_off rfl rfl rfl ?_ | refine WL_is (X_move rfl rfl) rfl rfl rfl ?_)
  (first | refine WL_off rfl rfl rfl ?_ | refine WL_is (X_len_sl rfl rfl rfl (by assumption)) rfl rfl rfl ?_ | refine WL_is (X_len rfl rfl rfl) rfl rfl rfl ?_ | refine WL_is (X_len_str rfl rfl rfl) rfl rfl rfl ?_)
  (first | refine WL_off rfl rfl rfl ?_ | refine WL_is (X_move rfl rfl) rfl rfl rfl ?_)
  (first | refine WL_off rfl rfl rfl ?_ | refine WL_is (X_len_sl rfl rfl rfl (by assumption)) rfl rfl rfl ?_ | refine WL_is (X_len rfl rfl rfl) rfl rfl rfl ?_ | refine WL_is (X_len_str rfl rfl rfl) rfl rfl rfl ?_)
  (first | refine WL_off rfl rfl rfl ?_ | refine WL_is (X_neq_t rfl rfl rfl (by omega)) rfl rfl rfl ?_ | refine WL_is (X_neq_f rfl rfl rfl (by omega)) rfl rfl rfl ?_ | refine WL_is (X_neq rfl rfl rfl) rfl rfl rfl ?_ | refine WL_is (X_neB rfl rfl rfl rfl) rfl rfl rfl ?_ | refine WL_is (X_neNil rfl rfl rfl rfl) rfl rfl rfl ?_ | refine WL_is (X_nePn_t rfl rfl rfl rfl) rfl rfl rfl ?_ | refine WL_is (X_nePn_f rfl rfl rfl rfl) rfl rfl rfl ?_ | refine WL_is (X_neS_c rfl rfl rfl (by assumption)) rfl rfl rfl ?_ | refine WL_is (X_neS rfl rfl rfl) rfl rfl rfl ?_ | refine WL_is (X_neA 8 heldOk guardOk rfl rfl rfl rfl rfl rfl rfl) rfl rfl rfl ?_)
  (first | refine WL_is (X_pick_t rfl rfl rfl) rfl rfl rfl ?_ | refine WL_is (X_pick_f rfl rfl rfl) rfl rfl rfl ?_)
  (first | refine WL_is (X_move rfl rfl) rfl rfl rfl ?_)
  (first | refine WL_off rfl rfl rfl ?_ | refine WL_is (X_move rfl rfl) rfl rfl rfl ?_)
  (first | refine WL_off rfl rfl rfl ?_ | refine WL_is (X_move rfl rfl) rfl rfl rfl ?_)
  (first | refine WL_off rfl rfl rfl ?_ | refine WL_is (X_callv rfl rfl rfl Try.func13 rfl (by assumption)) rfl rfl rfl ?_)
  (first | refine WL_off rfl rfl rfl ?_ | refine WL_is (X_not rfl rfl) rfl rfl rfl ?_)
  (first | refine WL_is (X_pick_t rfl rfl rfl) rfl rfl rfl ?_ | refine WL_is (X_pick_f rfl rfl rfl) rfl rfl rfl ?_)
  (repeat (first | refine WL_nil ?_ | refine WR_succ ?_ | refine Then_normal ?_ | refine W_seq ?_ | refine W_skip ?_ | refine W_ret ?_ | refine W_exit ?_ | refine W_block ?_ | refine Then_ret ?_ | refine Then_panic ?_ | refine inBlk_panic ?_ | refine Then_exit ?_ | refine inBlk_ret ?_ | refine inBlk_normal ?_ | refine inBlk_here ?_ | refine inBlk_out rfl ?_ | refine W_scope ?_ | refine W_label ?_ | refine noG_ret ?_ | refine noG_normal ?_ | refine noG_exit ?_ | refine W_true rfl ?_ | refine W_false rfl ?_))
  (repeat (first | refine WL_nil ?_ | refine WR_succ ?_ | refine Then_normal ?_ | refine W_seq ?_ | refine W_skip ?_ | refine W_ret ?_ | refine W_exit ?_ | refine W_block ?_ | refine Then_ret ?_ | refine Then_panic ?_ | refine inBlk_panic ?_ | refine Then_exit ?_ | refine inBlk_ret ?_ | refine inBlk_normal ?_ | refine inBlk_here ?_ | refine inBlk_out rfl ?_ | refine W_scope ?_ | refine W_label ?_ | refine noG_ret ?_ | refine noG_normal ?_ | refine noG_exit ?_ | refine W_true rfl ?_ | refine W_false rfl ?_))
  refine W_region rfl ?_
  (first | refine WL_is (X_assign rfl rfl) rfl rfl rfl ?_)
  (repeat (first | refine WL_nil ?_ | refine WR_succ ?_ | refine Then_normal ?_ | refine W_seq ?_ | refine W_skip ?_ | refine W_ret ?_ | refine W_exit ?_ | refine W_block ?_ | refine Then_ret ?_ | refine Then_panic ?_ | refine inBlk_panic ?_ | refine Then_exit ?_ | refine inBlk_ret ?_ | refine inBlk_normal ?_ | refine inBlk_here ?_ | refine inBlk_out rfl ?_ | refine W_scope ?_ | refine W_label ?_ | refine noG_ret ?_ | refine noG_normal ?_ | refine noG_exit ?_ | refine W_true rfl ?_ | refine W_false rfl ?_))
  refine W_loop (X := Nat) (L := fun k => ⟨[(18, .int .i64 (k : Int)), (14, .slice a3 L.length b3), (16, .slice a4 L.length b4)], [], [], H5⟩) (p := fun k => k ≤ L.length) (μ := fun k => L.length - k) 0 ⟨(by repeat (first | exact SubE_nil | refine SubE_cons rfl ?_)), rfl, SubR.none _, rfl⟩ (Nat.zero_le _) ?_
  intro k hk
  by_cases hlt : (k : Int) < L.length
  · have hkl : k < L.length := by omega
    have hs4 : (L[k].2.2.2 == L[k].2.2.2) = true := beqB _
    have hb : (!(L[k].1 == L[k].1 && (L[k].2.1 == L[k].2.1 && (L[k].2.2.1 == L[k].2.2.1 && (L[k].2.2.2 == L[k].2.2.2 && true))))) = false := by simp [hs4]
    (repeat (first | refine WL_nil ?_ | refine WR_succ ?_ | refine Then_normal ?_ | refine W_seq ?_ | refine W_skip ?_ | refine W_ret ?_ | refine W_exit ?_ | refine W_block ?_ | refine Then_ret ?_ | refine Then_panic ?_ | refine inBlk_panic ?_ | refine Then_exit ?_ | refine inBlk_ret ?_ | refine inBlk_normal ?_ | refine inBlk_here ?_ | refine inBlk_out rfl ?_ | refine W_scope ?_ | refine W_label ?_ | refine noG_ret ?_ | refine noG_normal ?_ | refine noG_exit ?_ | refine W_true rfl ?_ | refine W_false rfl ?_))
    refine W_region rfl ?_
    (first | refine WL_is (X_move rfl rfl) rfl rfl rfl ?_)
    (first | refine WL_is (X_move rfl rfl) rfl rfl rfl ?_)
    (first | refine WL_is (X_len_sl rfl rfl rfl (by assumption)) rfl rfl rfl ?_ | refine WL_is (X_len rfl rfl rfl) rfl rfl rfl ?_ | refine WL_is (X_len_str rfl rfl rfl) rfl rfl rfl ?_)
    (first | refine WL_is (X_lss_t rfl rfl rfl (by omega)) rfl rfl rfl ?_ | refine WL_is (X_lss_f rfl rfl rfl (by omega)) rfl rfl rfl ?_ | refine WL_is (X_lss rfl rfl rfl) rfl rfl rfl ?_)
    (repeat (first | refine WL_nil ?_ | refine WR_succ ?_ | refine Then_normal ?_ | refine W_seq ?_ | refine W_skip ?_ | refine W_ret ?_ | refine W_exit ?_ | refine W_block ?_ | refine Then_ret ?_ | refine Then_panic ?_ | refine inBlk_panic ?_ | refine Then_exit ?_ | refine inBlk_ret ?_ | refine inBlk_normal ?_ | refine inBlk_here ?_ | refine inBlk_out rfl ?_ | refine W_scope ?_ | refine W_label ?_ | refine noG_ret ?_ | refine noG_normal ?_ | refine noG_exit ?_ | refine W_true rfl ?_ | refine W_false rfl ?_))
    (repeat (first | refine WL_nil ?_ | refine WR_succ ?_ | refine Then_normal ?_ | refine W_seq ?_ | refine W_skip ?_ | refine W_ret ?_ | refine W_exit ?_ | refine W_block ?_ | refine Then_ret ?_ | refine Then_panic ?_ | refine inBlk_panic ?_ | refine Then_exit ?_ | refine inBlk_ret ?_ | refine inBlk_normal ?_ | refine inBlk_here ?_ | refine inBlk_out rfl ?_ | refine W_scope ?_ | refine W_label ?_ | refine noG_ret ?_ | refine noG_normal ?_ | refine noG_exit ?_ | refine W_true rfl ?_ | refine W_false rfl ?_))
    refine W_draw0 8 rfl rfl rfl rfl ?_
    (first | refine RG_val rfl rfl (fun _ => rfl) (fun _ => X_move rfl rfl) ?_)
    (first | refine RG_val rfl rfl (fun _ => rfl) (fun _ => X_move rfl rfl) ?_)
    (first | refine RG_val rfl rfl (fun _ => rfl) (fun _ => X_index_row rfl rfl (by first | exact idx0 | exact idx1 | exact idx2 | exact idx3 | exact idx4 | exact idx5 | exact idx6 | exact idx7) rfl rfl rfl (by omega)) ?_ | refine RG_val rfl rfl (fun _ => rfl) (fun _ => X_index_rowI rfl rfl (by first | exact idx0 | exact idx1 | exact idx2 | exact idx3 | exact idx4 | exact idx5 | exact idx6 | exact idx7) rfl rfl rfl (by omega) (by omega)) ?_ | refine RG_val rfl rfl (fun _ => rfl) (fun _ => X_index_own rfl rfl rfl rfl rfl (by omega) (by omega) (by simp only [Int.toNat_natCast] <;> rfl)) ?_ | refine RG_val rfl rfl (fun _ => rfl) (fun _ => X_index_arr (sz := 1) rfl rfl rfl rfl rfl (by omega) (by omega) (by simp only [Int.toNat_natCast, Nat.mul_one] <;> rfl)) ?_ | refine RG_val rfl rfl (fun _ => rfl) (fun _ => X_index_arrspot (sz := 6) rfl rfl rfl rfl rfl (by omega)) ?_ | refine RG_val rfl rfl (fun _ => rfl) (fun _ => X_index_arr rfl rfl rfl rfl rfl (by omega) (by omega) (by simp only [Int.toNat_natCast] <;> rfl)) ?_ | (refine RG_index_slN rfl rfl rfl (fun _ => rfl) (fun _ => rfl) (by assumption) (by omega) rfl rfl (fun _ => rfl) ?_; intro p_ hp_) | (refine RG_index_sl rfl rfl rfl (fun _ => rfl) (fun _ => rfl) (by assumption) (by omega) (by omega) rfl rfl (fun _ => rfl) ?_; intro p_ hp_))
    (first | refine RG_val rfl rfl (fun _ => rfl) (fun _ => X_load1 rfl rfl (by first | exact idx0 | exact idx1 | exact idx2 | exact idx3 | exact idx4 | exact idx5 | exact idx6 | exact idx7) rfl rfl) ?_ | refine RG_val rfl rfl (fun _ => rfl) (fun _ => X_loadA rfl rfl (by first | exact idx0 | exact idx1 | exact idx2 | exact idx3 | exact idx4 | exact idx5 | exact idx6 | exact idx7) rfl rfl rfl) ?_ | refine RG_val rfl rfl (fun _ => rfl) (fun _ => X_load1_at rfl rfl (by assumption) rfl rfl) ?_ | refine RG_val rfl rfl (fun _ => rfl) (fun _ => X_load1 rfl rfl (by first | exact idx0 | exact idx1 | exact idx2 | exact idx3 | exact idx4 | exact idx5 | exact idx6 | exact idx7) rfl (by assumption)) ?_ | refine RG_val rfl rfl (fun _ => rfl) (fun _ => X_loadA_at rfl rfl (by assumption) rfl rfl rfl) ?_ | refine RG_val rfl rfl (fun _ => rfl) (fun _ => X_load_spot rfl rfl (by first | exact idx0 | exact idx1 | exact idx2 | exact idx3 | exact idx4 | exact idx5 | exact idx6 | exact idx7) (by first | rfl | omega | (simp only [List.length_set]; first | done | omega)) rfl (by first | omega | (simp only [List.length_set]; omega)) rfl) ?_ | refine RG_val rfl rfl (fun _ => rfl) (fun _ => X_loadAll (sz := 4) rfl rfl (by first | exact idx0 | exact idx1 | exact idx2 | exact idx3 | exact idx4 | exact idx5 | exact idx6 | exact idx7) rfl rfl (by simp only [List.length_map, List.length_set]; omega)) ?_ | refine RG_val rfl rfl (fun _ => rfl) (fun _ => X_loadA_spot rfl rfl (by first | exact idx0 | exact idx1 | exact idx2 | exact idx3 | exact idx4 | exact idx5 | exact idx6 | exact idx7) (by first | rfl | omega | (simp only [List.length_set]; first | done | omega)) rfl rfl rfl (by first | omega | (simp only [List.length_set]; omega)) rfl) ?_)
    (first | refine RG_val rfl rfl (fun _ => rfl) (fun _ => X_move rfl rfl) ?_)
    (first | refine RG_val rfl rfl (fun _ => rfl) (fun _ => X_move rfl rfl) ?_)
    (first | refine RG_val rfl rfl (fun _ => rfl) (fun _ => X_index_row rfl rfl (by first | exact idx0 | exact idx1 | exact idx2 | exact idx3 | exact idx4 | exact idx5 | exact idx6 | exact idx7) rfl rfl rfl (by omega)) ?_ | refine RG_val rfl rfl (fun _ => rfl) (fun _ => X_index_rowI rfl rfl (by first | exact idx0 | exact idx1 | exact idx2 | exact idx3 | exact idx4 | exact idx5 | exact idx6 | exact idx7) rfl rfl rfl (by omega) (by omega)) ?_ | refine RG_val rfl rfl (fun _ => rfl) (fun _ => X_index_own rfl rfl rfl rfl rfl (by omega) (by omega) (by simp only [Int.toNat_natCast] <;> rfl)) ?_ | refine RG_val rfl rfl (fun _ => rfl) (fun _ => X_index_arr (sz := 1) rfl rfl rfl rfl rfl (by omega) (by omega) (by simp only [Int.toNat_natCast, Nat.mul_one] <;> rfl)) ?_ | refine RG_val rfl rfl (fun _ => rfl) (fun _ => X_index_arrspot (sz := 6) rfl rfl rfl rfl rfl (by omega)) ?_ | refine RG_val rfl rfl (fun _ => rfl) (fun _ => X_index_arr rfl rfl rfl rfl rfl (by omega) (by omega) (by simp only [Int.toNat_natCast] <;> rfl)) ?_ | (refine RG_index_slN rfl rfl rfl (fun _ => rfl) (fun _ => rfl) (by assumption) (by omega) rfl rfl (fun _ => rfl) ?_; intro p_ hp_) | (refine RG_index_sl rfl rfl rfl (fun _ => rfl) (fun _ => rfl) (by assumption) (by omega) (by omega) rfl rfl (fun _ => rfl) ?_; intro p_ hp_))
    (first | refine RG_val rfl rfl (fun _ => rfl) (fun _ => X_load1 rfl rfl (by first | exact idx0 | exact idx1 | exact idx2 | exact idx3 | exact idx4 | exact idx5 | exact idx6 | exact idx7) rfl rfl) ?_ | refine RG_val rfl rfl (fun _ => rfl) (fun _ => X_loadA rfl rfl (by first | exact idx0 | exact idx1 | exact idx2 | exact idx3 | exact idx4 | exact idx5 | exact idx6 | exact idx7) rfl rfl rfl) ?_ | refine RG_val rfl rfl (fun _ => rfl) (fun _ => X_load1_at rfl rfl (by assumption) rfl rfl) ?_ | refine RG_val rfl rfl (fun _ => rfl) (fun _ => X_load1 rfl rfl (by first | exact idx0 | exact idx1 | exact idx2 | exact idx3 | exact idx4 | exact idx5 | exact idx6 | exact idx7) rfl (by assumption)) ?_ | refine RG_val rfl rfl (fun _ => rfl) (fun _ => X_loadA_at rfl rfl (by assumption) rfl rfl rfl) ?_ | refine RG_val rfl rfl (fun _ => rfl) (fun _ => X_load_spot rfl rfl (by first | exact idx0 | exact idx1 | exact idx2 | exact idx3 | exact idx4 | exact idx5 | exact idx6 | exact idx7) (by first | rfl | omega | (simp only [List.length_set]; first | done | omega)) rfl (by first | omega | (simp only [List.length_set]; omega)) rfl) ?_ | refine RG_val rfl rfl (fun _ => rfl) (fun _ => X_loadAll (sz := 4) rfl rfl (by first | exact idx0 | exact idx1 | exact idx2 | exact idx3 | exact idx4 | exact idx5 | exact idx6 | exact idx7) rfl rfl (by simp only [List.length_map, List.length_set]; omega)) ?_ | refine RG_val rfl rfl (fun _ => rfl) (fun _ => X_loadA_spot rfl rfl (by first | exact idx0 | exact idx1 | exact idx2 | exact idx3 | exact idx4 | exact idx5 | exact idx6 | exact idx7) (by first | rfl | omega | (simp only [List.length_set]; first | done | omega)) rfl rfl rfl (by first | omega | (simp only [List.length_set]; omega)) rfl) ?_)
    refine RG_nil ?_
    refine RG_endv rfl (fun vs => by simp only [endE, List.cons_append, List.nil_append] <;> rfl) (fun vs => rfl) ?_
    (first | refine WL_is (X_neq_t rfl rfl rfl (by omega)) rfl rfl rfl ?_ | refine WL_is (X_neq_f rfl rfl rfl (by omega)) rfl rfl rfl ?_ | refine WL_is (X_neq rfl rfl rfl) rfl rfl rfl ?_ | refine WL_is (X_neB rfl rfl rfl rfl) rfl rfl rfl ?_ | refine WL_is (X_neNil rfl rfl rfl rfl) rfl rfl rfl ?_ | refine WL_is (X_nePn_t rfl rfl rfl rfl) rfl rfl rfl ?_ | refine WL_is (X_nePn_f rfl rfl rfl rfl) rfl rfl rfl ?_ | refine WL_is (X_neS_c rfl rfl rfl (by assumption)) rfl rfl rfl ?_ | refine WL_is (X_neS rfl rfl rfl) rfl rfl rfl ?_ | refine WL_is (X_neA 8 heldOk guardOk rfl rfl rfl rfl rfl rfl rfl) rfl rfl rfl ?_)
    (repeat (first | refine WL_nil ?_ | refine WR_succ ?_ | refine Then_normal ?_ | refine W_seq ?_ | refine W_skip ?_ | refine W_ret ?_ | refine W_exit ?_ | refine W_block ?_ | refine Then_ret ?_ | refine Then_panic ?_ | refine inBlk_panic ?_ | refine Then_exit ?_ | refine inBlk_ret ?_ | refine inBlk_normal ?_ | refine inBlk_here ?_ | refine inBlk_out rfl ?_ | refine W_scope ?_ | refine W_label ?_ | refine noG_ret ?_ | refine noG_normal ?_ | refine noG_exit ?_ | refine W_true rfl ?_ | refine W_false rfl ?_))
    rw [hb]
    (repeat (first | refine WL_nil ?_ | refine WR_succ ?_ | refine Then_normal ?_ | refine W_seq ?_ | refine W_skip ?_ | refine W_ret ?_ | refine W_exit ?_ | refine W_block ?_ | refine Then_ret ?_ | refine Then_panic ?_ | refine inBlk_panic ?_ | refine Then_exit ?_ | refine inBlk_ret ?_ | refine inBlk_normal ?_ | refine inBlk_here ?_ | refine inBlk_out rfl ?_ | refine W_scope ?_ | refine W_label ?_ | refine noG_ret ?_ | refine noG_normal ?_ | refine noG_exit ?_ | refine W_true rfl ?_ | refine W_false rfl ?_))
    refine W_region rfl ?_
    (first | refine WL_is (X_move rfl rfl) rfl rfl rfl ?_)
    (first | refine WL_is (X_addW rfl rfl rfl (by refine wrapL (by simp only [Int.reduceAdd] <;> rfl) ?_; decide)) rfl rfl rfl ?_ | refine WL_is (X_addW rfl rfl rfl (by first | exact wrap_i64_in (by omega) (by omega) | exact wrap_u16_in (by omega) (by omega) | exact wrap_u8_in (by omega) (by omega) | exact wrap_u64_in (by omega) (by omega))) rfl rfl rfl ?_ | refine WL_is (X_add rfl rfl rfl) rfl rfl rfl ?_ | refine WL_is (X_addS rfl rfl rfl (by omega)) rfl rfl rfl ?_)
    (first | refine WL_is (X_assign rfl rfl) rfl rfl rfl ?_)
    (repeat (first | refine WL_nil ?_ | refine WR_succ ?_ | refine Then_normal ?_ | refine W_seq ?_ | refine W_skip ?_ | refine W_ret ?_ | refine W_exit ?_ | refine W_block ?_ | refine Then_ret ?_ | refine Then_panic ?_ | refine inBlk_panic ?_ | refine Then_exit ?_ | refine inBlk_ret ?_ | refine inBlk_normal ?_ | refine inBlk_here ?_ | refine inBlk_out rfl ?_ | refine W_scope ?_ | refine W_label ?_ | refine noG_ret ?_ | refine noG_normal ?_ | refine noG_exit ?_ | refine W_true rfl ?_ | refine W_false rfl ?_))
    exact ⟨k + 1, ⟨(by repeat (first | exact SubE_nil | refine SubE_cons rfl ?_)), rfl, SubR.none _, rfl⟩, by omega, by omega⟩
  · (repeat (first | refine WL_nil ?_ | refine WR_succ ?_ | refine Then_normal ?_ | refine W_seq ?_ | refine W_skip ?_ | refine W_ret ?_ | refine W_exit ?_ | refine W_block ?_ | refine Then_ret ?_ | refine Then_panic ?_ | refine inBlk_panic ?_ | refine Then_exit ?_ | refine inBlk_ret ?_ | refine inBlk_normal ?_ | refine inBlk_here ?_ | refine inBlk_out rfl ?_ | refine W_scope ?_ | refine W_label ?_ | refine noG_ret ?_ | refine noG_normal ?_ | refine noG_exit ?_ | refine W_true rfl ?_ | refine W_false rfl ?_))
    refine W_region rfl ?_
    (first | refine WL_is (X_move rfl rfl) rfl rfl rfl ?_)
    (first | refine WL_is (X_move rfl rfl) rfl rfl rfl ?_)
    (first | refine WL_is (X_len_sl rfl rfl rfl (by assumption)) rfl rfl rfl ?_ | refine WL_is (X_len rfl rfl rfl) rfl rfl rfl ?_ | refine WL_is (X_len_str rfl rfl rfl) rfl rfl rfl ?_)
    (first | refine WL_is (X_lss_t rfl rfl rfl (by omega)) rfl rfl rfl ?_ | refine WL_is (X_lss_f rfl rfl rfl (by omega)) rfl rfl rfl ?_ | refine WL_is (X_lss rfl rfl rfl) rfl rfl rfl ?_)
    (repeat (first | refine WL_nil ?_ | refine WR_succ ?_ | refine Then_normal ?_ | refine W_seq ?_ | refine W_skip ?_ | refine W_ret ?_ | refine W_exit ?_ | refine W_block ?_ | refine Then_ret ?_ | refine Then_panic ?_ | refine inBlk_panic ?_ | refine Then_exit ?_ | refine inBlk_ret ?_ | refine inBlk_normal ?_ | refine inBlk_here ?_ | refine inBlk_out rfl ?_ | refine W_scope ?_ | refine W_label ?_ | refine noG_ret ?_ | refine noG_normal ?_ | refine noG_exit ?_ | refine W_true rfl ?_ | refine W_false rfl ?_))
    (repeat (first | refine WL_nil ?_ | refine WR_succ ?_ | refine Then_normal ?_ | refine W_seq ?_ | refine W_skip ?_ | refine W_ret ?_ | refine W_exit ?_ | refine W_block ?_ | refine Then_ret ?_ | refine Then_panic ?_ | refine inBlk_panic ?_ | refine Then_exit ?_ | refine inBlk_ret ?_ | refine inBlk_normal ?_ | refine inBlk_here ?_ | refine inBlk_out rfl ?_ | refine W_scope ?_ | refine W_label ?_ | refine noG_ret ?_ | refine noG_normal ?_ | refine noG_exit ?_ | refine W_true rfl ?_ | refine W_false rfl ?_))
    refine W_region rfl ?_
    (first | refine WL_is (X_callv rfl rfl rfl Try.func8 rfl (by assumption)) rfl rfl rfl ?_)
    (first | refine WL_is (X_assign rfl rfl) rfl rfl rfl ?_)
    (repeat (first | refine WL_nil ?_ | refine WR_succ ?_ | refine Then_normal ?_ | refine W_seq ?_ | refine W_skip ?_ | refine W_ret ?_ | refine W_exit ?_ | refine W_block ?_ | refine Then_ret ?_ | refine Then_panic ?_ | refine inBlk_panic ?_ | refine Then_exit ?_ | refine inBlk_ret ?_ | refine inBlk_normal ?_ | refine inBlk_here ?_ | refine inBlk_out rfl ?_ | refine W_scope ?_ | refine W_label ?_ | refine noG_ret ?_ | refine noG_normal ?_ | refine noG_exit ?_ | refine W_true rfl ?_ | refine W_false rfl ?_))
    refine Body_end rfl rfl rfl (SubR.none _) ?_
    rfl
end Go.Proofs.Ytoocbfpomamdeaa
