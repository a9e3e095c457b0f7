/- Files: the laws on merging, on cutting, on needs. -/
import Derived.Test.YtoocbfpomamdeaaFileL
namespace Go.Proofs.Ytoocbfpomamdeaa
set_option maxRecDepth 4000
open Go Go.Par PH
attribute [local irreducible] W WL Does Exec Body Then inBlk RG WR row obj pblk
set_option maxHeartbeats 1000000 in
theorem merges_law (h : PH) (w : Nat) (f : Int) (s : ByteArray) (hw : w < 18446744073709551616) : Does Try.prog 4 [.int .u64 (w : Int), .int .i64 f, .string s] [] h (Ret fun r _ _ => r = .bool true) := by
  have ha := alive_fn h
  refine Does_of_W Try.func4 rfl (n := 40) rfl rfl (by simp only [argE, Nat.reduceAdd] <;> rfl) ?_
  by_cases h1 : (s.size : Int) > 200
  · (repeat (first | refine WL_nil ?_ | refine WR_succ ?_ | refine Then_normal ?_ | refine W_seq ?_ | refine W_skip ?_ | refine W_ret ?_ | refine W_exit ?_ | refine W_block ?_ | refine Then_ret ?_ | refine Then_panic ?_ | refine inBlk_panic ?_ | refine Then_exit ?_ | refine inBlk_ret ?_ | refine inBlk_normal ?_ | refine inBlk_here ?_ | refine inBlk_out rfl ?_ | refine W_scope ?_ | refine W_label ?_ | refine noG_ret ?_ | refine noG_normal ?_ | refine noG_exit ?_ | refine W_true rfl ?_ | refine W_false rfl ?_))
    (repeat (first | refine WL_nil ?_ | refine WR_succ ?_ | refine Then_normal ?_ | refine W_seq ?_ | refine W_skip ?_ | refine W_ret ?_ | refine W_exit ?_ | refine W_block ?_ | refine Then_ret ?_ | refine Then_panic ?_ | refine inBlk_panic ?_ | refine Then_exit ?_ | refine inBlk_ret ?_ | refine inBlk_normal ?_ | refine inBlk_here ?_ | refine inBlk_out rfl ?_ | refine W_scope ?_ | refine W_label ?_ | refine noG_ret ?_ | refine noG_normal ?_ | refine noG_exit ?_ | refine W_true rfl ?_ | refine W_false rfl ?_))
    refine W_region rfl ?_
    (first | refine WL_is (X_assign rfl rfl) rfl rfl rfl ?_)
    (repeat (first | refine WL_nil ?_ | refine WR_succ ?_ | refine Then_normal ?_ | refine W_seq ?_ | refine W_skip ?_ | refine W_ret ?_ | refine W_exit ?_ | refine W_block ?_ | refine Then_ret ?_ | refine Then_panic ?_ | refine inBlk_panic ?_ | refine Then_exit ?_ | refine inBlk_ret ?_ | refine inBlk_normal ?_ | refine inBlk_here ?_ | refine inBlk_out rfl ?_ | refine W_scope ?_ | refine W_label ?_ | refine noG_ret ?_ | refine noG_normal ?_ | refine noG_exit ?_ | refine W_true rfl ?_ | refine W_false rfl ?_))
    (repeat (first | refine WL_nil ?_ | refine WR_succ ?_ | refine Then_normal ?_ | refine W_seq ?_ | refine W_skip ?_ | refine W_ret ?_ | refine W_exit ?_ | refine W_block ?_ | refine Then_ret ?_ | refine Then_panic ?_ | refine inBlk_panic ?_ | refine Then_exit ?_ | refine inBlk_ret ?_ | refine inBlk_normal ?_ | refine inBlk_here ?_ | refine inBlk_out rfl ?_ | refine W_scope ?_ | refine W_label ?_ | refine noG_ret ?_ | refine noG_normal ?_ | refine noG_exit ?_ | refine W_true rfl ?_ | refine W_false rfl ?_))
    refine W_region rfl ?_
    (first | refine WL_is (X_move rfl rfl) rfl rfl rfl ?_)
    (first | refine WL_is (X_len_sl rfl rfl rfl (by assumption)) rfl rfl rfl ?_ | refine WL_is (X_len rfl rfl rfl) rfl rfl rfl ?_ | refine WL_is (X_len_str rfl rfl rfl) rfl rfl rfl ?_)
    (first | refine WL_is (X_gtr_t rfl rfl rfl (by omega)) rfl rfl rfl ?_ | refine WL_is (X_gtr_f rfl rfl rfl (by omega)) rfl rfl rfl ?_ | refine WL_is (X_gtr rfl rfl rfl) rfl rfl rfl ?_)
    (repeat (first | refine WL_nil ?_ | refine WR_succ ?_ | refine Then_normal ?_ | refine W_seq ?_ | refine W_skip ?_ | refine W_ret ?_ | refine W_exit ?_ | refine W_block ?_ | refine Then_ret ?_ | refine Then_panic ?_ | refine inBlk_panic ?_ | refine Then_exit ?_ | refine inBlk_ret ?_ | refine inBlk_normal ?_ | refine inBlk_here ?_ | refine inBlk_out rfl ?_ | refine W_scope ?_ | refine W_label ?_ | refine noG_ret ?_ | refine noG_normal ?_ | refine noG_exit ?_ | refine W_true rfl ?_ | refine W_false rfl ?_))
    (repeat (first | refine WL_nil ?_ | refine WR_succ ?_ | refine Then_normal ?_ | refine W_seq ?_ | refine W_skip ?_ | refine W_ret ?_ | refine W_exit ?_ | refine W_block ?_ | refine Then_ret ?_ | refine Then_panic ?_ | refine inBlk_panic ?_ | refine Then_exit ?_ | refine inBlk_ret ?_ | refine inBlk_normal ?_ | refine inBlk_here ?_ | refine inBlk_out rfl ?_ | refine W_scope ?_ | refine W_label ?_ | refine noG_ret ?_ | refine noG_normal ?_ | refine noG_exit ?_ | refine W_true rfl ?_ | refine W_false rfl ?_))
    refine W_region rfl ?_
    (first | refine WL_is (X_callv rfl rfl rfl Try.func8 rfl (by assumption)) rfl rfl rfl ?_)
    (first | refine WL_is (X_assign rfl rfl) rfl rfl rfl ?_)
    (repeat (first | refine WL_nil ?_ | refine WR_succ ?_ | refine Then_normal ?_ | refine W_seq ?_ | refine W_skip ?_ | refine W_ret ?_ | refine W_exit ?_ | refine W_block ?_ | refine Then_ret ?_ | refine Then_panic ?_ | refine inBlk_panic ?_ | refine Then_exit ?_ | refine inBlk_ret ?_ | refine inBlk_normal ?_ | refine inBlk_here ?_ | refine inBlk_out rfl ?_ | refine W_scope ?_ | refine W_label ?_ | refine noG_ret ?_ | refine noG_normal ?_ | refine noG_exit ?_ | refine W_true rfl ?_ | refine W_false rfl ?_))
    refine Body_end rfl rfl rfl (SubR.none _) ?_
    rfl
  · have c1 := merge_fn h w f s hw (by omega)
    have c2 := merge_ref h w f s hw (by omega)
    generalize mrgW w f s = a at c1 c2
    generalize mrgE f s = b at c1 c2
    (repeat (first | refine WL_nil ?_ | refine WR_succ ?_ | refine Then_normal ?_ | refine W_seq ?_ | refine W_skip ?_ | refine W_ret ?_ | refine W_exit ?_ | refine W_block ?_ | refine Then_ret ?_ | refine Then_panic ?_ | refine inBlk_panic ?_ | refine Then_exit ?_ | refine inBlk_ret ?_ | refine inBlk_normal ?_ | refine inBlk_here ?_ | refine inBlk_out rfl ?_ | refine W_scope ?_ | refine W_label ?_ | refine noG_ret ?_ | refine noG_normal ?_ | refine noG_exit ?_ | refine W_true rfl ?_ | refine W_false rfl ?_))
    (repeat (first | refine WL_nil ?_ | refine WR_succ ?_ | refine Then_normal ?_ | refine W_seq ?_ | refine W_skip ?_ | refine W_ret ?_ | refine W_exit ?_ | refine W_block ?_ | refine Then_ret ?_ | refine Then_panic ?_ | refine inBlk_panic ?_ | refine Then_exit ?_ | refine inBlk_ret ?_ | refine inBlk_normal ?_ | refine inBlk_here ?_ | refine inBlk_out rfl ?_ | refine W_scope ?_ | refine W_label ?_ | refine noG_ret ?_ | refine noG_normal ?_ | refine noG_exit ?_ | refine W_true rfl ?_ | refine W_false rfl ?_))
    refine W_region rfl ?_
    (first | refine WL_is (X_assign rfl rfl) rfl rfl rfl ?_)
    (repeat (first | refine WL_nil ?_ | refine WR_succ ?_ | refine Then_normal ?_ | refine W_seq ?_ | refine W_skip ?_ | refine W_ret ?_ | refine W_exit ?_ | refine W_block ?_ | refine Then_ret ?_ | refine Then_panic ?_ | refine inBlk_panic ?_ | refine Then_exit ?_ | refine inBlk_ret ?_ | refine inBlk_normal ?_ | refine inBlk_here ?_ | refine inBlk_out rfl ?_ | refine W_scope ?_ | refine W_label ?_ | refine noG_ret ?_ | refine noG_normal ?_ | refine noG_exit ?_ | refine W_true rfl ?_ | refine W_false rfl ?_))
    (repeat (first | refine WL_nil ?_ | refine WR_succ ?_ | refine Then_normal ?_ | refine W_seq ?_ | refine W_skip ?_ | refine W_ret ?_ | refine W_exit ?_ | refine W_block ?_ | refine Then_ret ?_ | refine Then_panic ?_ | refine inBlk_panic ?_ | refine Then_exit ?_ | refine inBlk_ret ?_ | refine inBlk_normal ?_ | refine inBlk_here ?_ | refine inBlk_out rfl ?_ | refine W_scope ?_ | refine W_label ?_ | refine noG_ret ?_ | refine noG_normal ?_ | refine noG_exit ?_ | refine W_true rfl ?_ | refine W_false rfl ?_))
    refine W_region rfl ?_
    (first | refine WL_is (X_move rfl rfl) rfl rfl rfl ?_)
    (first | refine WL_is (X_len_sl rfl rfl rfl (by assumption)) rfl rfl rfl ?_ | refine WL_is (X_len rfl rfl rfl) rfl rfl rfl ?_ | refine WL_is (X_len_str rfl rfl rfl) rfl rfl rfl ?_)
    (first | refine WL_is (X_gtr_t rfl rfl rfl (by omega)) rfl rfl rfl ?_ | refine WL_is (X_gtr_f rfl rfl rfl (by omega)) rfl rfl rfl ?_ | refine WL_is (X_gtr rfl rfl rfl) rfl rfl rfl ?_)
    (repeat (first | refine WL_nil ?_ | refine WR_succ ?_ | refine Then_normal ?_ | refine W_seq ?_ | refine W_skip ?_ | refine W_ret ?_ | refine W_exit ?_ | refine W_block ?_ | refine Then_ret ?_ | refine Then_panic ?_ | refine inBlk_panic ?_ | refine Then_exit ?_ | refine inBlk_ret ?_ | refine inBlk_normal ?_ | refine inBlk_here ?_ | refine inBlk_out rfl ?_ | refine W_scope ?_ | refine W_label ?_ | refine noG_ret ?_ | refine noG_normal ?_ | refine noG_exit ?_ | refine W_true rfl ?_ | refine W_false rfl ?_))
    (repeat (first | refine WL_nil ?_ | refine WR_succ ?_ | refine Then_normal ?_ | refine W_seq ?_ | refine W_skip ?_ | refine W_ret ?_ | refine W_exit ?_ | refine W_block ?_ | refine Then_ret ?_ | refine Then_panic ?_ | refine inBlk_panic ?_ | refine Then_exit ?_ | refine inBlk_ret ?_ | refine inBlk_normal ?_ | refine inBlk_here ?_ | refine inBlk_out rfl ?_ | refine W_scope ?_ | refine W_label ?_ | refine noG_ret ?_ | refine noG_normal ?_ | refine noG_exit ?_ | refine W_true rfl ?_ | refine W_false rfl ?_))
    refine W_region rfl ?_
    (first | refine WL_is (X_move rfl rfl) rfl rfl rfl ?_)
    (first | refine WL_is (X_move rfl rfl) rfl rfl rfl ?_)
    (first | refine WL_is (X_move rfl rfl) rfl rfl rfl ?_)
    (first | refine WL_is (X_callv rfl rfl rfl Try.func14 rfl (by assumption)) rfl rfl rfl ?_)
    (first | refine WL_is (X_move rfl rfl) rfl rfl rfl ?_)
    (first | refine WL_is (X_extract rfl rfl rfl) rfl rfl rfl ?_)
    (first | refine WL_is (X_extract rfl rfl rfl) rfl rfl rfl ?_)
    (first | refine WL_is (X_assign rfl rfl) rfl rfl rfl ?_)
    (first | refine WL_is (X_assign rfl rfl) rfl rfl rfl ?_)
    (repeat (first | refine WL_nil ?_ | refine WR_succ ?_ | refine Then_normal ?_ | refine W_seq ?_ | refine W_skip ?_ | refine W_ret ?_ | refine W_exit ?_ | refine W_block ?_ | refine Then_ret ?_ | refine Then_panic ?_ | refine inBlk_panic ?_ | refine Then_exit ?_ | refine inBlk_ret ?_ | refine inBlk_normal ?_ | refine inBlk_here ?_ | refine inBlk_out rfl ?_ | refine W_scope ?_ | refine W_label ?_ | refine noG_ret ?_ | refine noG_normal ?_ | refine noG_exit ?_ | refine W_true rfl ?_ | refine W_false rfl ?_))
    (repeat (first | refine WL_nil ?_ | refine WR_succ ?_ | refine Then_normal ?_ | refine W_seq ?_ | refine W_skip ?_ | refine W_ret ?_ | refine W_exit ?_ | refine W_block ?_ | refine Then_ret ?_ | refine Then_panic ?_ | refine inBlk_panic ?_ | refine Then_exit ?_ | refine inBlk_ret ?_ | refine inBlk_normal ?_ | refine inBlk_here ?_ | refine inBlk_out rfl ?_ | refine W_scope ?_ | refine W_label ?_ | refine noG_ret ?_ | refine noG_normal ?_ | refine noG_exit ?_ | refine W_true rfl ?_ | refine W_false rfl ?_))
    refine W_region rfl ?_
    (first | refine WL_is (X_move rfl rfl) rfl rfl rfl ?_)
    (first | refine WL_is (X_move rfl rfl) rfl rfl rfl ?_)
    (first | refine WL_is (X_move rfl rfl) rfl rfl rfl ?_)
    (first | refine WL_is (X_callv rfl rfl rfl Try.func15 rfl (by assumption)) rfl rfl rfl ?_)
    (first | refine WL_is (X_move rfl rfl) rfl rfl rfl ?_)
    (first | refine WL_is (X_extract rfl rfl rfl) rfl rfl rfl ?_)
    (first | refine WL_is (X_extract rfl rfl rfl) rfl rfl rfl ?_)
    (first | refine WL_is (X_assign rfl rfl) rfl rfl rfl ?_)
    (first | refine WL_is (X_assign rfl rfl) rfl rfl rfl ?_)
    (repeat (first | refine WL_nil ?_ | refine WR_succ ?_ | refine Then_normal ?_ | refine W_seq ?_ | refine W_skip ?_ | refine W_ret ?_ | refine W_exit ?_ | refine W_block ?_ | refine Then_ret ?_ | refine Then_panic ?_ | refine inBlk_panic ?_ | refine Then_exit ?_ | refine inBlk_ret ?_ | refine inBlk_normal ?_ | refine inBlk_here ?_ | refine inBlk_out rfl ?_ | refine W_scope ?_ | refine W_label ?_ | refine noG_ret ?_ | refine noG_normal ?_ | refine noG_exit ?_ | refine W_true rfl ?_ | refine W_false rfl ?_))
    (repeat (first | refine WL_nil ?_ | refine WR_succ ?_ | refine Then_normal ?_ | refine W_seq ?_ | refine W_skip ?_ | refine W_ret ?_ | refine W_exit ?_ | refine W_block ?_ | refine Then_ret ?_ | refine Then_panic ?_ | refine inBlk_panic ?_ | refine Then_exit ?_ | refine inBlk_ret ?_ | refine inBlk_normal ?_ | refine inBlk_here ?_ | refine inBlk_out rfl ?_ | refine W_scope ?_ | refine W_label ?_ | refine noG_ret ?_ | refine noG_normal ?_ | refine noG_exit ?_ | refine W_true rfl ?_ | refine W_false rfl ?_))
    refine W_region rfl ?_
    (first | refine WL_is (X_move rfl rfl) rfl rfl rfl ?_)
    (first | refine WL_is (X_move rfl rfl) rfl rfl rfl ?_)
    (first | refine WL_is (X_eql_t rfl rfl rfl (by omega)) rfl rfl rfl ?_ | refine WL_is (X_eql_f rfl rfl rfl (by omega)) rfl rfl rfl ?_ | refine WL_is (X_eql rfl rfl rfl) rfl rfl rfl ?_ | refine WL_is (X_eqB_t rfl rfl rfl rfl (by first | rfl | assumption)) rfl rfl rfl ?_ | refine WL_is (X_eqB_f rfl rfl rfl rfl (by first | assumption | simp; done)) rfl rfl rfl ?_ | refine WL_is (X_eqB rfl rfl rfl rfl) rfl rfl rfl ?_ | refine WL_is (X_nilSl rfl rfl rfl rfl) rfl rfl rfl ?_ | refine WL_is (X_eqPn_t rfl rfl rfl rfl) rfl rfl rfl ?_ | refine WL_is (X_eqPn_f rfl rfl rfl rfl) rfl rfl rfl ?_ | refine WL_is (X_eqS_c rfl rfl rfl (by assumption)) rfl rfl rfl ?_ | refine WL_is (X_eqS rfl rfl rfl) rfl rfl rfl ?_ | refine WL_is (X_eqA 8 heldOk guardOk rfl rfl rfl rfl rfl rfl rfl) rfl rfl rfl ?_)
    (first | refine WL_is (X_move rfl rfl) rfl rfl rfl ?_)
    (first | refine WL_off rfl rfl rfl ?_ | refine WL_is (X_move rfl rfl) rfl rfl rfl ?_)
    (first | refine WL_off rfl rfl rfl ?_ | refine WL_is (X_move rfl rfl) rfl rfl rfl ?_)
    (first | refine WL_off rfl rfl rfl ?_ | refine WL_is (X_eql_t rfl rfl rfl (by omega)) rfl rfl rfl ?_ | refine WL_is (X_eql_f rfl rfl rfl (by omega)) rfl rfl rfl ?_ | refine WL_is (X_eql rfl rfl rfl) rfl rfl rfl ?_ | refine WL_is (X_eqB_t rfl rfl rfl rfl (by first | rfl | assumption)) rfl rfl rfl ?_ | refine WL_is (X_eqB_f rfl rfl rfl rfl (by first | assumption | simp; done)) rfl rfl rfl ?_ | refine WL_is (X_eqB rfl rfl rfl rfl) rfl rfl rfl ?_ | refine WL_is (X_nilSl rfl rfl rfl rfl) rfl rfl rfl ?_ | refine WL_is (X_eqPn_t rfl rfl rfl rfl) rfl rfl rfl ?_ | refine WL_is (X_eqPn_f rfl rfl rfl rfl) rfl rfl rfl ?_ | refine WL_is (X_eqS_c rfl rfl rfl (by assumption)) rfl rfl rfl ?_ | refine WL_is (X_eqS rfl rfl rfl) rfl rfl rfl ?_ | refine WL_is (X_eqA 8 heldOk guardOk rfl rfl rfl rfl rfl rfl rfl) rfl rfl rfl ?_)
    (first | refine WL_is (X_pick_t rfl rfl rfl) rfl rfl rfl ?_ | refine WL_is (X_pick_f rfl rfl rfl) rfl rfl rfl ?_)
    (first | refine WL_is (X_move rfl rfl) rfl rfl rfl ?_)
    (first | refine WL_off rfl rfl rfl ?_ | refine WL_is (X_callv rfl rfl rfl Try.func8 rfl (by assumption)) rfl rfl rfl ?_)
    (first | refine WL_is (X_pick_t rfl rfl rfl) rfl rfl rfl ?_ | refine WL_is (X_pick_f rfl rfl rfl) rfl rfl rfl ?_)
    (first | refine WL_is (X_assign rfl rfl) rfl rfl rfl ?_)
    (repeat (first | refine WL_nil ?_ | refine WR_succ ?_ | refine Then_normal ?_ | refine W_seq ?_ | refine W_skip ?_ | refine W_ret ?_ | refine W_exit ?_ | refine W_block ?_ | refine Then_ret ?_ | refine Then_panic ?_ | refine inBlk_panic ?_ | refine Then_exit ?_ | refine inBlk_ret ?_ | refine inBlk_normal ?_ | refine inBlk_here ?_ | refine inBlk_out rfl ?_ | refine W_scope ?_ | refine W_label ?_ | refine noG_ret ?_ | refine noG_normal ?_ | refine noG_exit ?_ | refine W_true rfl ?_ | refine W_false rfl ?_))
    refine Body_end rfl rfl rfl (SubR.none _) ?_
    rfl
set_option maxHeartbeats 2000000 in
theorem cuts_law (h : PH) (m : List Int) (v : Value) (size : Int) (hv : Sl encI 1 h v m) : Does Try.prog 5 [v, .int .i64 size] [] h (Ret fun r _ _ => r = .bool true) := by
  have ha := fun h => alive_fn h
  obtain ⟨va, vc, rfl⟩ := hv.shape
  refine Does_of_W Try.func5 rfl (n := 62) rfl rfl (by simp only [argE, Nat.reduceAdd] <;> rfl) ?_
  by_cases h1 : (m.length : Int) > 100
  · have ha := ha h
    (repeat (first | refine WL_nil ?_ | refine WR_succ ?_ | refine Then_normal ?_ | refine W_seq ?_ | refine W_skip ?_ | refine W_ret ?_ | refine W_exit ?_ | refine W_block ?_ | refine Then_ret ?_ | refine Then_panic ?_ | refine inBlk_panic ?_ | refine Then_exit ?_ | refine inBlk_ret ?_ | refine inBlk_normal ?_ | refine inBlk_here ?_ | refine inBlk_out rfl ?_ | refine W_scope ?_ | refine W_label ?_ | refine noG_ret ?_ | refine noG_normal ?_ | refine noG_exit ?_ | refine W_true rfl ?_ | refine W_false rfl ?_))
    (repeat (first | refine WL_nil ?_ | refine WR_succ ?_ | refine Then_normal ?_ | refine W_seq ?_ | refine W_skip ?_ | refine W_ret ?_ | refine W_exit ?_ | refine W_block ?_ | refine Then_ret ?_ | refine Then_panic ?_ | refine inBlk_panic ?_ | refine Then_exit ?_ | refine inBlk_ret ?_ | refine inBlk_normal ?_ | refine inBlk_here ?_ | refine inBlk_out rfl ?_ | refine W_scope ?_ | refine W_label ?_ | refine noG_ret ?_ | refine noG_normal ?_ | refine noG_exit ?_ | refine W_true rfl ?_ | refine W_false rfl ?_))
    refine W_region rfl ?_
    (first | refine WL_is (X_assign rfl rfl) rfl rfl rfl ?_)
    (repeat (first | refine WL_nil ?_ | refine WR_succ ?_ | refine Then_normal ?_ | refine W_seq ?_ | refine W_skip ?_ | refine W_ret ?_ | refine W_exit ?_ | refine W_block ?_ | refine Then_ret ?_ | refine Then_panic ?_ | refine inBlk_panic ?_ | refine Then_exit ?_ | refine inBlk_ret ?_ | refine inBlk_normal ?_ | refine inBlk_here ?_ | refine inBlk_out rfl ?_ | refine W_scope ?_ | refine W_label ?_ | refine noG_ret ?_ | refine noG_normal ?_ | refine noG_exit ?_ | refine W_true rfl ?_ | refine W_false rfl ?_))
    (repeat (first | refine WL_nil ?_ | refine WR_succ ?_ | refine Then_normal ?_ | refine W_seq ?_ | refine W_skip ?_ | refine W_ret ?_ | refine W_exit ?_ | refine W_block ?_ | refine Then_ret ?_ | refine Then_panic ?_ | refine inBlk_panic ?_ | refine Then_exit ?_ | refine inBlk_ret ?_ | refine inBlk_normal ?_ | refine inBlk_here ?_ | refine inBlk_out rfl ?_ | refine W_scope ?_ | refine W_label ?_ | refine noG_ret ?_ | refine noG_normal ?_ | refine noG_exit ?_ | refine W_true rfl ?_ | refine W_false rfl ?_))
    refine W_region rfl ?_
    (first | refine WL_is (X_move rfl rfl) rfl rfl rfl ?_)
    (first | refine WL_is (X_len_sl rfl rfl rfl (by assumption)) rfl rfl rfl ?_ | refine WL_is (X_len rfl rfl rfl) rfl rfl rfl ?_ | refine WL_is (X_len_str rfl rfl rfl) rfl rfl rfl ?_)
    (first | refine WL_is (X_gtr_t rfl rfl rfl (by omega)) rfl rfl rfl ?_ | refine WL_is (X_gtr_f rfl rfl rfl (by omega)) rfl rfl rfl ?_ | refine WL_is (X_gtr rfl rfl rfl) rfl rfl rfl ?_)
    (repeat (first | refine WL_nil ?_ | refine WR_succ ?_ | refine Then_normal ?_ | refine W_seq ?_ | refine W_skip ?_ | refine W_ret ?_ | refine W_exit ?_ | refine W_block ?_ | refine Then_ret ?_ | refine Then_panic ?_ | refine inBlk_panic ?_ | refine Then_exit ?_ | refine inBlk_ret ?_ | refine inBlk_normal ?_ | refine inBlk_here ?_ | refine inBlk_out rfl ?_ | refine W_scope ?_ | refine W_label ?_ | refine noG_ret ?_ | refine noG_normal ?_ | refine noG_exit ?_ | refine W_true rfl ?_ | refine W_false rfl ?_))
    (repeat (first | refine WL_nil ?_ | refine WR_succ ?_ | refine Then_normal ?_ | refine W_seq ?_ | refine W_skip ?_ | refine W_ret ?_ | refine W_exit ?_ | refine W_block ?_ | refine Then_ret ?_ | refine Then_panic ?_ | refine inBlk_panic ?_ | refine Then_exit ?_ | refine inBlk_ret ?_ | refine inBlk_normal ?_ | refine inBlk_here ?_ | refine inBlk_out rfl ?_ | refine W_scope ?_ | refine W_label ?_ | refine noG_ret ?_ | refine noG_normal ?_ | refine noG_exit ?_ | refine W_true rfl ?_ | refine W_false rfl ?_))
    refine W_region rfl ?_
    (first | refine WL_is (X_callv rfl rfl rfl Try.func8 rfl (by assumption)) rfl rfl rfl ?_)
    (first | refine WL_is (X_assign rfl rfl) rfl rfl rfl ?_)
    (repeat (first | refine WL_nil ?_ | refine WR_succ ?_ | refine Then_normal ?_ | refine W_seq ?_ | refine W_skip ?_ | refine W_ret ?_ | refine W_exit ?_ | refine W_block ?_ | refine Then_ret ?_ | refine Then_panic ?_ | refine inBlk_panic ?_ | refine Then_exit ?_ | refine inBlk_ret ?_ | refine inBlk_normal ?_ | refine inBlk_here ?_ | refine inBlk_out rfl ?_ | refine W_scope ?_ | refine W_label ?_ | refine noG_ret ?_ | refine noG_normal ?_ | refine noG_exit ?_ | refine W_true rfl ?_ | refine W_false rfl ?_))
    refine Body_end rfl rfl rfl (SubR.none _) ?_
    rfl
  · (repeat (first | refine WL_nil ?_ | refine WR_succ ?_ | refine Then_normal ?_ | refine W_seq ?_ | refine W_skip ?_ | refine W_ret ?_ | refine W_exit ?_ | refine W_block ?_ | refine Then_ret ?_ | refine Then_panic ?_ | refine inBlk_panic ?_ | refine Then_exit ?_ | refine inBlk_ret ?_ | refine inBlk_normal ?_ | refine inBlk_here ?_ | refine inBlk_out rfl ?_ | refine W_scope ?_ | refine W_label ?_ | refine noG_ret ?_ | refine noG_normal ?_ | refine noG_exit ?_ | refine W_true rfl ?_ | refine W_false rfl ?_))
    (repeat (first | refine WL_nil ?_ | refine WR_succ ?_ | refine Then_normal ?_ | refine W_seq ?_ | refine W_skip ?_ | refine W_ret ?_ | refine W_exit ?_ | refine W_block ?_ | refine Then_ret ?_ | refine Then_panic ?_ | refine inBlk_panic ?_ | refine Then_exit ?_ | refine inBlk_ret ?_ | refine inBlk_normal ?_ | refine inBlk_here ?_ | refine inBlk_out rfl ?_ | refine W_scope ?_ | refine W_label ?_ | refine noG_ret ?_ | refine noG_normal ?_ | refine noG_exit ?_ | refine W_true rfl ?_ | refine W_false rfl ?_))
    refine W_region rfl ?_
    (first | refine WL_is (X_assign rfl rfl) rfl rfl rfl ?_)
    (repeat (first | refine WL_nil ?_ | refine WR_succ ?_ | refine Then_normal ?_ | refine W_seq ?_ | refine W_skip ?_ | refine W_ret ?_ | refine W_exit ?_ | refine W_block ?_ | refine Then_ret ?_ | refine Then_panic ?_ | refine inBlk_panic ?_ | refine Then_exit ?_ | refine inBlk_ret ?_ | refine inBlk_normal ?_ | refine inBlk_here ?_ | refine inBlk_out rfl ?_ | refine W_scope ?_ | refine W_label ?_ | refine noG_ret ?_ | refine noG_normal ?_ | refine noG_exit ?_ | refine W_true rfl ?_ | refine W_false rfl ?_))
    (repeat (first | refine WL_nil ?_ | refine WR_succ ?_ | refine Then_normal ?_ | refine W_seq ?_ | refine W_skip ?_ | refine W_ret ?_ | refine W_exit ?_ | refine W_block ?_ | refine Then_ret ?_ | refine Then_panic ?_ | refine inBlk_panic ?_ | refine Then_exit ?_ | refine inBlk_ret ?_ | refine inBlk_normal ?_ | refine inBlk_here ?_ | refine inBlk_out rfl ?_ | refine W_scope ?_ | refine W_label ?_ | refine noG_ret ?_ | refine noG_normal ?_ | refine noG_exit ?_ | refine W_true rfl ?_ | refine W_false rfl ?_))
    refine W_region rfl ?_
    (first | refine WL_is (X_move rfl rfl) rfl rfl rfl ?_)
    (first | refine WL_is (X_len_sl rfl rfl rfl (by assumption)) rfl rfl rfl ?_ | refine WL_is (X_len rfl rfl rfl) rfl rfl rfl ?_ | refine WL_is (X_len_str rfl rfl rfl) rfl rfl rfl ?_)
    (first | refine WL_is (X_gtr_t rfl rfl rfl (by omega)) rfl rfl rfl ?_ | refine WL_is (X_gtr_f rfl rfl rfl (by omega)) rfl rfl rfl ?_ | refine WL_is (X_gtr rfl rfl rfl) rfl rfl rfl ?_)
    (repeat (first | refine WL_nil ?_ | refine WR_succ ?_ | refine Then_normal ?_ | refine W_seq ?_ | refine W_skip ?_ | refine W_ret ?_ | refine W_exit ?_ | refine W_block ?_ | refine Then_ret ?_ | refine Then_panic ?_ | refine inBlk_panic ?_ | refine Then_exit ?_ | refine inBlk_ret ?_ | refine inBlk_normal ?_ | refine inBlk_here ?_ | refine inBlk_out rfl ?_ | refine W_scope ?_ | refine W_label ?_ | refine noG_ret ?_ | refine noG_normal ?_ | refine noG_exit ?_ | refine W_true rfl ?_ | refine W_false rfl ?_))
    (repeat (first | refine WL_nil ?_ | refine WR_succ ?_ | refine Then_normal ?_ | refine W_seq ?_ | refine W_skip ?_ | refine W_ret ?_ | refine W_exit ?_ | refine W_block ?_ | refine Then_ret ?_ | refine Then_panic ?_ | refine inBlk_panic ?_ | refine Then_exit ?_ | refine inBlk_ret ?_ | refine inBlk_normal ?_ | refine inBlk_here ?_ | refine inBlk_out rfl ?_ | refine W_scope ?_ | refine W_label ?_ | refine noG_ret ?_ | refine noG_normal ?_ | refine noG_exit ?_ | refine W_true rfl ?_ | refine W_false rfl ?_))
    refine W_region rfl ?_
    (first | refine WL_is (X_move rfl rfl) rfl rfl rfl ?_)
    refine WL_append_nil (enc := encI) rfl rfl rfl elemI rfl (Src.sl hv) (flatI m) (by omega) (by omega) rfl rfl rfl ?_
    intro v'
    refine WL_updE (UpdE.row (enc := encI) 0 rfl (lenI _)) ?_
    rintro _ H1 L1 ⟨rfl, ho⟩
    simp only [List.eraseIdx_cons_zero]
    obtain ⟨oa, oc, rfl⟩ := ho.shape
    (first | refine WL_is (X_assign rfl rfl) rfl rfl rfl ?_)
    (repeat (first | refine WL_nil ?_ | refine WR_succ ?_ | refine Then_normal ?_ | refine W_seq ?_ | refine W_skip ?_ | refine W_ret ?_ | refine W_exit ?_ | refine W_block ?_ | refine Then_ret ?_ | refine Then_panic ?_ | refine inBlk_panic ?_ | refine Then_exit ?_ | refine inBlk_ret ?_ | refine inBlk_normal ?_ | refine inBlk_here ?_ | refine inBlk_out rfl ?_ | refine W_scope ?_ | refine W_label ?_ | refine noG_ret ?_ | refine noG_normal ?_ | refine noG_exit ?_ | refine W_true rfl ?_ | refine W_false rfl ?_))
    (repeat (first | refine WL_nil ?_ | refine WR_succ ?_ | refine Then_normal ?_ | refine W_seq ?_ | refine W_skip ?_ | refine W_ret ?_ | refine W_exit ?_ | refine W_block ?_ | refine Then_ret ?_ | refine Then_panic ?_ | refine inBlk_panic ?_ | refine Then_exit ?_ | refine inBlk_ret ?_ | refine inBlk_normal ?_ | refine inBlk_here ?_ | refine inBlk_out rfl ?_ | refine W_scope ?_ | refine W_label ?_ | refine noG_ret ?_ | refine noG_normal ?_ | refine noG_exit ?_ | refine W_true rfl ?_ | refine W_false rfl ?_))
    refine W_region rfl ?_
    (first | refine WL_is (X_move rfl rfl) rfl rfl rfl ?_)
    (first | refine WL_is (X_move rfl rfl) rfl rfl rfl ?_)
    refine WL_call rfl rfl rfl Try.func16 rfl rfl rfl rfl (cut_fn H1 m _ size ho (by omega)) ?_
    rintro _ _ H2 L2 ⟨rfl, x1, y1, rfl, s1, t1⟩
    obtain ⟨a1, b1, rfl⟩ := s1.shape
    obtain ⟨c1, d1, rfl⟩ := t1.shape
    simp only [List.nil_append]
    generalize htl : tailC m size = tl
    obtain ⟨p1, p2, p3, p4⟩ := tl
    (first | refine WL_is (X_move rfl rfl) rfl rfl rfl ?_)
    (first | refine WL_is (X_extract rfl rfl rfl) rfl rfl rfl ?_)
    (first | refine WL_is (X_extract rfl rfl rfl) rfl rfl rfl ?_)
    (first | refine WL_is (X_extract rfl rfl rfl) rfl rfl rfl ?_)
    (first | refine WL_is (X_extract rfl rfl rfl) rfl rfl rfl ?_)
    (first | (refine WL_alloc rfl rfl rfl rfl rfl rfl ?_; intro b_))
    (first | refine WL_is (X_assign rfl rfl) rfl rfl rfl ?_)
    (first | refine WL_is (X_assign rfl rfl) rfl rfl rfl ?_)
    (first | refine WL_store rfl rfl rfl (by first | exact idx0 | exact idx1 | exact idx2 | exact idx3 | exact idx4 | exact idx5 | exact idx6 | exact idx7) rfl rfl rfl rfl rfl rfl rfl rfl rfl ?_ | refine WL_storeV (sz := 1) rfl rfl rfl (by first | exact idx0 | exact idx1 | exact idx2 | exact idx3 | exact idx4 | exact idx5 | exact idx6 | exact idx7) rfl (by simp only [vc] <;> rfl) rfl rfl (by first | omega | (simp only [List.length_set, List.length_map, List.length_cons]; omega)) rfl rfl (by simp only [wr, List.set_cons_zero, List.set_cons_succ] <;> rfl) (by simp only [List.set_cons_zero, List.set_cons_succ] <;> rfl) ?_ | refine WL_store_spot rfl rfl rfl (by first | exact idx0 | exact idx1 | exact idx2 | exact idx3 | exact idx4 | exact idx5 | exact idx6 | exact idx7) (by first | rfl | omega | (simp only [List.length_set]; first | done | omega)) rfl rfl rfl rfl rfl (by first | omega | (simp only [List.length_set]; omega)) rfl rfl rfl rfl ?_ | refine WL_storeV rfl rfl rfl (by first | exact idx0 | exact idx1 | exact idx2 | exact idx3 | exact idx4 | exact idx5 | exact idx6 | exact idx7) rfl (by simp only [vc] <;> rfl) rfl rfl (by simp; done) rfl rfl (by simp only [wr, List.set_cons_zero, List.set_cons_succ] <;> rfl) (by simp only [List.set_cons_zero, List.set_cons_succ] <;> rfl) ?_)
    (first | refine WL_is (X_assign rfl rfl) rfl rfl rfl ?_)
    (repeat (first | refine WL_nil ?_ | refine WR_succ ?_ | refine Then_normal ?_ | refine W_seq ?_ | refine W_skip ?_ | refine W_ret ?_ | refine W_exit ?_ | refine W_block ?_ | refine Then_ret ?_ | refine Then_panic ?_ | refine inBlk_panic ?_ | refine Then_exit ?_ | refine inBlk_ret ?_ | refine inBlk_normal ?_ | refine inBlk_here ?_ | refine inBlk_out rfl ?_ | refine W_scope ?_ | refine W_label ?_ | refine noG_ret ?_ | refine noG_normal ?_ | refine noG_exit ?_ | refine W_true rfl ?_ | refine W_false rfl ?_))
    generalize b_ = tb1
    (repeat (first | refine WL_nil ?_ | refine WR_succ ?_ | refine Then_normal ?_ | refine W_seq ?_ | refine W_skip ?_ | refine W_ret ?_ | refine W_exit ?_ | refine W_block ?_ | refine Then_ret ?_ | refine Then_panic ?_ | refine inBlk_panic ?_ | refine Then_exit ?_ | refine inBlk_ret ?_ | refine inBlk_normal ?_ | refine inBlk_here ?_ | refine inBlk_out rfl ?_ | refine W_scope ?_ | refine W_label ?_ | refine noG_ret ?_ | refine noG_normal ?_ | refine noG_exit ?_ | refine W_true rfl ?_ | refine W_false rfl ?_))
    refine W_region rfl ?_
    (first | refine WL_is (X_move rfl rfl) rfl rfl rfl ?_)
    (first | refine WL_is (X_move rfl rfl) rfl rfl rfl ?_)
    refine WL_call rfl rfl rfl Try.func17 rfl rfl rfl rfl (cut_ref H2 m _ size (hv.mono (L1.trans L2)) (by omega)) ?_
    rintro _ _ H3 L3 ⟨rfl, x2, y2, rfl, s2, t2⟩
    obtain ⟨a2, b2, rfl⟩ := s2.shape
    obtain ⟨c2, d2, rfl⟩ := t2.shape
    simp only [List.nil_append]
    rw [htl]
    (first | refine WL_is (X_move rfl rfl) rfl rfl rfl ?_)
    (first | refine WL_is (X_extract rfl rfl rfl) rfl rfl rfl ?_)
    (first | refine WL_is (X_extract rfl rfl rfl) rfl rfl rfl ?_)
    (first | refine WL_is (X_extract rfl rfl rfl) rfl rfl rfl ?_)
    (first | refine WL_is (X_extract rfl rfl rfl) rfl rfl rfl ?_)
    (first | (refine WL_alloc rfl rfl rfl rfl rfl rfl ?_; intro b_))
    (first | refine WL_is (X_assign rfl rfl) rfl rfl rfl ?_)
    (first | refine WL_is (X_assign rfl rfl) rfl rfl rfl ?_)
    (first | refine WL_store rfl rfl rfl (by first | exact idx0 | exact idx1 | exact idx2 | exact idx3 | exact idx4 | exact idx5 | exact idx6 | exact idx7) rfl rfl rfl rfl rfl rfl rfl rfl rfl ?_ | refine WL_storeV (sz := 1) rfl rfl rfl (by first | exact idx0 | exact idx1 | exact idx2 | exact idx3 | exact idx4 | exact idx5 | exact idx6 | exact idx7) rfl (by simp only [vc] <;> rfl) rfl rfl (by first | omega | (simp only [List.length_set, List.length_map, List.length_cons]; omega)) rfl rfl (by simp only [wr, List.set_cons_zero, List.set_cons_succ] <;> rfl) (by simp only [List.set_cons_zero, List.set_cons_succ] <;> rfl) ?_ | refine WL_store_spot rfl rfl rfl (by first | exact idx0 | exact idx1 | exact idx2 | exact idx3 | exact idx4 | exact idx5 | exact idx6 | exact idx7) (by first | rfl | omega | (simp only [List.length_set]; first | done | omega)) rfl rfl rfl rfl rfl (by first | omega | (simp only [List.length_set]; omega)) rfl rfl rfl rfl ?_ | refine WL_storeV rfl rfl rfl (by first | exact idx0 | exact idx1 | exact idx2 | exact idx3 | exact idx4 | exact idx5 | exact idx6 | exact idx7) rfl (by simp only [vc] <;> rfl) rfl rfl (by simp; done) rfl rfl (by simp only [wr, List.set_cons_zero, List.set_cons_succ] <;> rfl) (by simp only [List.set_cons_zero, List.set_cons_succ] <;> rfl) ?_)
    (first | refine WL_is (X_assign rfl rfl) rfl rfl rfl ?_)
    (repeat (first | refine WL_nil ?_ | refine WR_succ ?_ | refine Then_normal ?_ | refine W_seq ?_ | refine W_skip ?_ | refine W_ret ?_ | refine W_exit ?_ | refine W_block ?_ | refine Then_ret ?_ | refine Then_panic ?_ | refine inBlk_panic ?_ | refine Then_exit ?_ | refine inBlk_ret ?_ | refine inBlk_normal ?_ | refine inBlk_here ?_ | refine inBlk_out rfl ?_ | refine W_scope ?_ | refine W_label ?_ | refine noG_ret ?_ | refine noG_normal ?_ | refine noG_exit ?_ | refine W_true rfl ?_ | refine W_false rfl ?_))
    generalize b_ = tb2
    have hl1 : (leftC m size).length ≤ 1000 := by
      unfold leftC; split
      · rename_i hz
        have hM : mayM m = true := by
          cases hM : mayM m with
          | true => rfl
          | false => simp [cutE, hM] at hz
        have hml := mayM_len hM
        unfold cutE at hz
        split at hz
        · cases hz
        · rename_i hb
          rw [leftK_len hml (by unfold stayN; omega)]; omega
      · decide
    have hl2 : (goneC m size).length ≤ 1000 := by
      unfold goneC; split
      · exact Nat.le_trans goneK_len (by omega)
      · decide
    have k1 := sameI_ref H3 (leftC m size) (leftC m size) _ _ (s1.mono L3) s2 (by omega) (by omega)
    have k2 := sameI_ref H3 (goneC m size) (goneC m size) _ _ (t1.mono L3) t2 (by omega) (by omega)
    have k3 := sameI_ref H3 m m _ _ (ho.mono (L2.trans L3)) (hv.mono (L1.trans (L2.trans L3))) (by omega) (by omega)
    have k4 := ha H3
    rw [decide_eq_true rfl] at k1 k2 k3
    generalize cutE m size = ce
    have hs4 : (p4 == p4) = true := beqB p4
    have hb : (p1 == p1 && (p2 == p2 && (p3 == p3 && (p4 == p4 && true)))) = true := by simp [hs4]
    (repeat (first | refine WL_nil ?_ | refine WR_succ ?_ | refine Then_normal ?_ | refine W_seq ?_ | refine W_skip ?_ | refine W_ret ?_ | refine W_exit ?_ | refine W_block ?_ | refine Then_ret ?_ | refine Then_panic ?_ | refine inBlk_panic ?_ | refine Then_exit ?_ | refine inBlk_ret ?_ | refine inBlk_normal ?_ | refine inBlk_here ?_ | refine inBlk_out rfl ?_ | refine W_scope ?_ | refine W_label ?_ | refine noG_ret ?_ | refine noG_normal ?_ | refine noG_exit ?_ | refine W_true rfl ?_ | refine W_false rfl ?_))
    refine W_region rfl ?_
    (first | refine WL_is (X_move rfl rfl) rfl rfl rfl ?_)
    (first | refine WL_is (X_move rfl rfl) rfl rfl rfl ?_)
    (first | refine WL_is (X_callv rfl rfl rfl Try.func13 rfl (by assumption)) rfl rfl rfl ?_)
    (first | refine WL_is (X_move rfl rfl) rfl rfl rfl ?_)
    (first | refine WL_off rfl rfl rfl ?_ | refine WL_is (X_move rfl rfl) rfl rfl rfl ?_)
    (first | refine WL_off rfl rfl rfl ?_ | refine WL_is (X_move rfl rfl) rfl rfl rfl ?_)
    (first | refine WL_off rfl rfl rfl ?_ | refine WL_is (X_callv rfl rfl rfl Try.func13 rfl (by assumption)) rfl rfl rfl ?_)
    (first | refine WL_is (X_pick_t rfl rfl rfl) rfl rfl rfl ?_ | refine WL_is (X_pick_f rfl rfl rfl) rfl rfl rfl ?_)
    (first | refine WL_is (X_move rfl rfl) rfl rfl rfl ?_)
    (first | refine WL_off rfl rfl rfl ?_ | refine WL_is (X_load1 rfl rfl (by first | exact idx0 | exact idx1 | exact idx2 | exact idx3 | exact idx4 | exact idx5 | exact idx6 | exact idx7) rfl rfl) rfl rfl rfl ?_ | refine WL_is (X_loadA rfl rfl (by first | exact idx0 | exact idx1 | exact idx2 | exact idx3 | exact idx4 | exact idx5 | exact idx6 | exact idx7) rfl rfl rfl) rfl rfl rfl ?_ | refine WL_is (X_load1_at rfl rfl (by assumption) rfl rfl) rfl rfl rfl ?_ | refine WL_is (X_load1 rfl rfl (by first | exact idx0 | exact idx1 | exact idx2 | exact idx3 | exact idx4 | exact idx5 | exact idx6 | exact idx7) rfl (by assumption)) rfl rfl rfl ?_ | refine WL_is (X_loadA_at rfl rfl (by assumption) rfl rfl rfl) rfl rfl rfl ?_ | refine WL_is (X_load_spot rfl rfl (by first | exact idx0 | exact idx1 | exact idx2 | exact idx3 | exact idx4 | exact idx5 | exact idx6 | exact idx7) (by first | rfl | omega | (simp only [List.length_set]; first | done | omega)) rfl (by first | omega | (simp only [List.length_set]; omega)) rfl) rfl rfl rfl ?_ | refine WL_is (X_loadAll (sz := 4) rfl rfl (by first | exact idx0 | exact idx1 | exact idx2 | exact idx3 | exact idx4 | exact idx5 | exact idx6 | exact idx7) rfl rfl (by simp only [List.length_map, List.length_set]; omega)) rfl rfl rfl ?_ | refine WL_is (X_loadA_spot rfl rfl (by first | exact idx0 | exact idx1 | exact idx2 | exact idx3 | exact idx4 | exact idx5 | exact idx6 | exact idx7) (by first | rfl | omega | (simp only [List.length_set]; first | done | omega)) rfl rfl rfl (by first | omega | (simp only [List.length_set]; omega)) rfl) rfl rfl rfl ?_)
    (first | refine WL_off rfl rfl rfl ?_ | refine WL_is (X_load1 rfl rfl (by first | exact idx0 | exact idx1 | exact idx2 | exact idx3 | exact idx4 | exact idx5 | exact idx6 | exact idx7) rfl rfl) rfl rfl rfl ?_ | refine WL_is (X_loadA rfl rfl (by first | exact idx0 | exact idx1 | exact idx2 | exact idx3 | exact idx4 | exact idx5 | exact idx6 | exact idx7) rfl rfl rfl) rfl rfl rfl ?_ | refine WL_is (X_load1_at rfl rfl (by assumption) rfl rfl) rfl rfl rfl ?_ | refine WL_is (X_load1 rfl rfl (by first | exact idx0 | exact idx1 | exact idx2 | exact idx3 | exact idx4 | exact idx5 | exact idx6 | exact idx7) rfl (by assumption)) rfl rfl rfl ?_ | refine WL_is (X_loadA_at rfl rfl (by assumption) rfl rfl rfl) rfl rfl rfl ?_ | refine WL_is (X_load_spot rfl rfl (by first | exact idx0 | exact idx1 | exact idx2 | exact idx3 | exact idx4 | exact idx5 | exact idx6 | exact idx7) (by first | rfl | omega | (simp only [List.length_set]; first | done | omega)) rfl (by first | omega | (simp only [List.length_set]; omega)) rfl) rfl rfl rfl ?_ | refine WL_is (X_loadAll (sz := 4) rfl rfl (by first | exact idx0 | exact idx1 | exact idx2 | exact idx3 | exact idx4 | exact idx5 | exact idx6 | exact idx7) rfl rfl (by simp only [List.length_map, List.length_set]; omega)) rfl rfl rfl ?_ | refine WL_is (X_loadA_spot rfl rfl (by first | exact idx0 | exact idx1 | exact idx2 | exact idx3 | exact idx4 | exact idx5 | exact idx6 | exact idx7) (by first | rfl | omega | (simp only [List.length_set]; first | done | omega)) rfl rfl rfl (by first | omega | (simp only [List.length_set]; omega)) rfl) rfl rfl rfl ?_)
    (first | refine WL_off rfl rfl rfl ?_ | refine WL_is (X_eql_t rfl rfl rfl (by omega)) rfl rfl rfl ?_ | refine WL_is (X_eql_f rfl rfl rfl (by omega)) rfl rfl rfl ?_ | refine WL_is (X_eql rfl rfl rfl) rfl rfl rfl ?_ | refine WL_is (X_eqB_t rfl rfl rfl rfl (by first | rfl | assumption)) rfl rfl rfl ?_ | refine WL_is (X_eqB_f rfl rfl rfl rfl (by first | assumption | simp; done)) rfl rfl rfl ?_ | refine WL_is (X_eqB rfl rfl rfl rfl) rfl rfl rfl ?_ | refine WL_is (X_nilSl rfl rfl rfl rfl) rfl rfl rfl ?_ | refine WL_is (X_eqPn_t rfl rfl rfl rfl) rfl rfl rfl ?_ | refine WL_is (X_eqPn_f rfl rfl rfl rfl) rfl rfl rfl ?_ | refine WL_is (X_eqS_c rfl rfl rfl (by assumption)) rfl rfl rfl ?_ | refine WL_is (X_eqS rfl rfl rfl) rfl rfl rfl ?_ | refine WL_is (X_eqA 8 heldOk guardOk rfl rfl rfl rfl rfl rfl rfl) rfl rfl rfl ?_)
    dsimp only
    rw [hb]
    (first | refine WL_is (X_pick_t rfl rfl rfl) rfl rfl rfl ?_ | refine WL_is (X_pick_f rfl rfl rfl) rfl rfl rfl ?_)
    (first | refine WL_is (X_move rfl rfl) rfl rfl rfl ?_)
    (first | refine WL_off rfl rfl rfl ?_ | refine WL_is (X_move rfl rfl) rfl rfl rfl ?_)
    (first | refine WL_off rfl rfl rfl ?_ | refine WL_is (X_move rfl rfl) rfl rfl rfl ?_)
    (first | refine WL_off rfl rfl rfl ?_ | refine WL_is (X_eql_t rfl rfl rfl (by omega)) rfl rfl rfl ?_ | refine WL_is (X_eql_f rfl rfl rfl (by omega)) rfl rfl rfl ?_ | refine WL_is (X_eql rfl rfl rfl) rfl rfl rfl ?_ | refine WL_is (X_eqB_t rfl rfl rfl rfl (by first | rfl | assumption)) rfl rfl rfl ?_ | refine WL_is (X_eqB_f rfl rfl rfl rfl (by first | assumption | simp; done)) rfl rfl rfl ?_ | refine WL_is (X_eqB rfl rfl rfl rfl) rfl rfl rfl ?_ | refine WL_is (X_nilSl rfl rfl rfl rfl) rfl rfl rfl ?_ | refine WL_is (X_eqPn_t rfl rfl rfl rfl) rfl rfl rfl ?_ | refine WL_is (X_eqPn_f rfl rfl rfl rfl) rfl rfl rfl ?_ | refine WL_is (X_eqS_c rfl rfl rfl (by assumption)) rfl rfl rfl ?_ | refine WL_is (X_eqS rfl rfl rfl) rfl rfl rfl ?_ | refine WL_is (X_eqA 8 heldOk guardOk rfl rfl rfl rfl rfl rfl rfl) rfl rfl rfl ?_)
    (first | refine WL_is (X_pick_t rfl rfl rfl) rfl rfl rfl ?_ | refine WL_is (X_pick_f rfl rfl rfl) rfl rfl rfl ?_)
    (first | refine WL_is (X_move rfl rfl) rfl rfl rfl ?_)
    (first | refine WL_off rfl rfl rfl ?_ | refine WL_is (X_move rfl rfl) rfl rfl rfl ?_)
    (first | refine WL_off rfl rfl rfl ?_ | refine WL_is (X_move rfl rfl) rfl rfl rfl ?_)
    (first | refine WL_off rfl rfl rfl ?_ | refine WL_is (X_callv rfl rfl rfl Try.func13 rfl (by assumption)) rfl rfl rfl ?_)
    (first | refine WL_is (X_pick_t rfl rfl rfl) rfl rfl rfl ?_ | refine WL_is (X_pick_f rfl rfl rfl) rfl rfl rfl ?_)
    (first | refine WL_is (X_move rfl rfl) rfl rfl rfl ?_)
    (first | refine WL_off rfl rfl rfl ?_ | refine WL_is (X_callv rfl rfl rfl Try.func8 rfl (by assumption)) rfl rfl rfl ?_)
    (first | refine WL_is (X_pick_t rfl rfl rfl) rfl rfl rfl ?_ | refine WL_is (X_pick_f rfl rfl rfl) rfl rfl rfl ?_)
    (first | refine WL_is (X_assign rfl rfl) rfl rfl rfl ?_)
    (repeat (first | refine WL_nil ?_ | refine WR_succ ?_ | refine Then_normal ?_ | refine W_seq ?_ | refine W_skip ?_ | refine W_ret ?_ | refine W_exit ?_ | refine W_block ?_ | refine Then_ret ?_ | refine Then_panic ?_ | refine inBlk_panic ?_ | refine Then_exit ?_ | refine inBlk_ret ?_ | refine inBlk_normal ?_ | refine inBlk_here ?_ | refine inBlk_out rfl ?_ | refine W_scope ?_ | refine W_label ?_ | refine noG_ret ?_ | refine noG_normal ?_ | refine noG_exit ?_ | refine W_true rfl ?_ | refine W_false rfl ?_))
    refine Body_end rfl rfl rfl (SubR.none _) ?_
    rfl
end Go.Proofs.Ytoocbfpomamdeaa
