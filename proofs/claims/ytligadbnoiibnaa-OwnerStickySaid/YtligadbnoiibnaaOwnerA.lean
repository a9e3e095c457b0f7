/- Who may turn attributes: what refuses, and what tells of it. -/
import Derived.Test.YtligadbnoiibnaaBase
import Derived.Test.YtligadbnoiibnaaEngK
namespace Go.Proofs.Ytligadbnoiibnaa
set_option maxRecDepth 4000
open Go Go.Par PH
/-- What ends a call. -/
def rfs (e : Int) : Value := .iface 75 (.agg #[.int .i64 e])
def unlessK (b : Bool) (e : Int) : Post
  | .returned _, R, _ => b = true ∧ R = []
  | .panicked ch, R, _ => b = false ∧ ch = [{ v := rfs e, recovered := false }] ∧ R = []
  | .outgrown, _, _ => False
theorem Body_pan {P : Program} {n : Nat} {fn : Func} {K : Post} {ch : List PanicEntry} {E : Env} {R : List SL} {h : PH} (hk : K (.panicked ch) [] h) : Body P n fn K (.panic ch) ⟨E, [], [], h⟩ := ⟨rfl, hk⟩
theorem Body_endK0 {P : Program} {n : Nat} {fn : Func} {K : Post} {E : Env} {h : PH} (h1 : fn.results = #[]) (hk : K (.returned (.tuple #[])) [] h) : Body P n fn K .normal ⟨E, [], [], h⟩ :=
  Body_normal rfl (RetOk_tmps (ts := []) (vs := []) (by rw [h1]; rfl) rfl hk)
abbrev attrC0 : List Value := [.int .u8 0, .int .u16 0, .int .u16 0, .int .u8 0, .int .u8 0, .int .u8 0, .slice none 0 0, .slice none 0 0, .bool false, .int .u8 0, .bool false, .int .u8 0, .int .u8 0, .int .u8 0, .slice none 0 0, .slice none 0 0, .bool false, .int .u8 0, .slice none 0 0]
attribute [local irreducible] W WL Does Exec Body Then inBlk RG WR row obj pblk
theorem unless_fn (h : PH) (b : Bool) (e : Int) : Does Try.prog 37 [.bool b, .int .i64 e] [] h (unlessK b e) := by
  refine Does_of_W Try.func37 rfl (n := 9) rfl rfl (by simp only [argE, Nat.reduceAdd] <;> rfl) ?_
  cases b with
  | true =>
    (repeat (first | refine WL_nil ?_ | refine WR_succ ?_ | refine Then_normal ?_ | refine W_seq ?_ | refine W_skip ?_ | refine W_ret ?_ | refine W_exit ?_ | refine W_block ?_ | refine Then_ret ?_ | refine Then_panic ?_ | refine inBlk_panic ?_ | refine Then_exit ?_ | refine inBlk_ret ?_ | refine inBlk_normal ?_ | refine inBlk_here ?_ | refine inBlk_out rfl ?_ | refine W_scope ?_ | refine W_label ?_ | refine noG_ret ?_ | refine noG_normal ?_ | refine noG_exit ?_ | refine W_true rfl ?_ | refine W_false rfl ?_))
    (repeat (first | refine WL_nil ?_ | refine WR_succ ?_ | refine Then_normal ?_ | refine W_seq ?_ | refine W_skip ?_ | refine W_ret ?_ | refine W_exit ?_ | refine W_block ?_ | refine Then_ret ?_ | refine Then_panic ?_ | refine inBlk_panic ?_ | refine Then_exit ?_ | refine inBlk_ret ?_ | refine inBlk_normal ?_ | refine inBlk_here ?_ | refine inBlk_out rfl ?_ | refine W_scope ?_ | refine W_label ?_ | refine noG_ret ?_ | refine noG_normal ?_ | refine noG_exit ?_ | refine W_true rfl ?_ | refine W_false rfl ?_))
    refine W_region rfl ?_
    (first | refine WL_is (X_move rfl rfl) rfl rfl rfl ?_)
    (first | refine WL_is (X_not rfl rfl) rfl rfl rfl ?_)
    (repeat (first | refine WL_nil ?_ | refine WR_succ ?_ | refine Then_normal ?_ | refine W_seq ?_ | refine W_skip ?_ | refine W_ret ?_ | refine W_exit ?_ | refine W_block ?_ | refine Then_ret ?_ | refine Then_panic ?_ | refine inBlk_panic ?_ | refine Then_exit ?_ | refine inBlk_ret ?_ | refine inBlk_normal ?_ | refine inBlk_here ?_ | refine inBlk_out rfl ?_ | refine W_scope ?_ | refine W_label ?_ | refine noG_ret ?_ | refine noG_normal ?_ | refine noG_exit ?_ | refine W_true rfl ?_ | refine W_false rfl ?_))
    exact Body_endK0 rfl ⟨rfl, rfl⟩
  | false =>
    (repeat (first | refine WL_nil ?_ | refine WR_succ ?_ | refine Then_normal ?_ | refine W_seq ?_ | refine W_skip ?_ | refine W_ret ?_ | refine W_exit ?_ | refine W_block ?_ | refine Then_ret ?_ | refine Then_panic ?_ | refine inBlk_panic ?_ | refine Then_exit ?_ | refine inBlk_ret ?_ | refine inBlk_normal ?_ | refine inBlk_here ?_ | refine inBlk_out rfl ?_ | refine W_scope ?_ | refine W_label ?_ | refine noG_ret ?_ | refine noG_normal ?_ | refine noG_exit ?_ | refine W_true rfl ?_ | refine W_false rfl ?_))
    (repeat (first | refine WL_nil ?_ | refine WR_succ ?_ | refine Then_normal ?_ | refine W_seq ?_ | refine W_skip ?_ | refine W_ret ?_ | refine W_exit ?_ | refine W_block ?_ | refine Then_ret ?_ | refine Then_panic ?_ | refine inBlk_panic ?_ | refine Then_exit ?_ | refine inBlk_ret ?_ | refine inBlk_normal ?_ | refine inBlk_here ?_ | refine inBlk_out rfl ?_ | refine W_scope ?_ | refine W_label ?_ | refine noG_ret ?_ | refine noG_normal ?_ | refine noG_exit ?_ | refine W_true rfl ?_ | refine W_false rfl ?_))
    refine W_region rfl ?_
    (first | refine WL_is (X_move rfl rfl) rfl rfl rfl ?_)
    (first | refine WL_is (X_not rfl rfl) rfl rfl rfl ?_)
    (repeat (first | refine WL_nil ?_ | refine WR_succ ?_ | refine Then_normal ?_ | refine W_seq ?_ | refine W_skip ?_ | refine W_ret ?_ | refine W_exit ?_ | refine W_block ?_ | refine Then_ret ?_ | refine Then_panic ?_ | refine inBlk_panic ?_ | refine Then_exit ?_ | refine inBlk_ret ?_ | refine inBlk_normal ?_ | refine inBlk_here ?_ | refine inBlk_out rfl ?_ | refine W_scope ?_ | refine W_label ?_ | refine noG_ret ?_ | refine noG_normal ?_ | refine noG_exit ?_ | refine W_true rfl ?_ | refine W_false rfl ?_))
    (repeat (first | refine WL_nil ?_ | refine WR_succ ?_ | refine Then_normal ?_ | refine W_seq ?_ | refine W_skip ?_ | refine W_ret ?_ | refine W_exit ?_ | refine W_block ?_ | refine Then_ret ?_ | refine Then_panic ?_ | refine inBlk_panic ?_ | refine Then_exit ?_ | refine inBlk_ret ?_ | refine inBlk_normal ?_ | refine inBlk_here ?_ | refine inBlk_out rfl ?_ | refine W_scope ?_ | refine W_label ?_ | refine noG_ret ?_ | refine noG_normal ?_ | refine noG_exit ?_ | refine W_true rfl ?_ | refine W_false rfl ?_))
    refine W_region rfl ?_
    (first | refine WL_is (X_move rfl rfl) rfl rfl rfl ?_)
    (first | refine WL_is (X_build rfl rfl rfl) rfl rfl rfl ?_)
    (first | refine WL_is (X_makeIface rfl rfl rfl) rfl rfl rfl ?_)
    (first | refine WL_panic rfl rfl rfl (fun _ h => absurd h (by simp)) ?_)
    (repeat (first | refine WL_nil ?_ | refine WR_succ ?_ | refine Then_normal ?_ | refine W_seq ?_ | refine W_skip ?_ | refine W_ret ?_ | refine W_exit ?_ | refine W_block ?_ | refine Then_ret ?_ | refine Then_panic ?_ | refine inBlk_panic ?_ | refine Then_exit ?_ | refine inBlk_ret ?_ | refine inBlk_normal ?_ | refine inBlk_here ?_ | refine inBlk_out rfl ?_ | refine W_scope ?_ | refine W_label ?_ | refine noG_ret ?_ | refine noG_normal ?_ | refine noG_exit ?_ | refine W_true rfl ?_ | refine W_false rfl ?_))
    (repeat (first | refine WL_nil ?_ | refine WR_succ ?_ | refine Then_normal ?_ | refine W_seq ?_ | refine W_skip ?_ | refine W_ret ?_ | refine W_exit ?_ | refine W_block ?_ | refine Then_ret ?_ | refine Then_panic ?_ | refine inBlk_panic ?_ | refine Then_exit ?_ | refine inBlk_ret ?_ | refine inBlk_normal ?_ | refine inBlk_here ?_ | refine inBlk_out rfl ?_ | refine W_scope ?_ | refine W_label ?_ | refine noG_ret ?_ | refine noG_normal ?_ | refine noG_exit ?_ | refine W_true rfl ?_ | refine W_false rfl ?_))
    exact Body_pan (R := []) ⟨rfl, rfl, rfl⟩
theorem answerN_fn (h : PH) (p q : Value) : Does Try.prog 36 [.nilIface, p, q] [] h (Ret fun _ R' _ => R' = []) := by
  refine Does_of_W Try.func36 rfl (n := 26) rfl rfl (by simp only [argE, Nat.reduceAdd] <;> rfl) ?_
  (repeat (first | refine WL_nil ?_ | refine WR_succ ?_ | refine Then_normal ?_ | refine W_seq ?_ | refine W_skip ?_ | refine W_ret ?_ | refine W_exit ?_ | refine W_block ?_ | refine Then_ret ?_ | refine Then_panic ?_ | refine inBlk_panic ?_ | refine Then_exit ?_ | refine inBlk_ret ?_ | refine inBlk_normal ?_ | refine inBlk_here ?_ | refine inBlk_out rfl ?_ | refine W_scope ?_ | refine W_label ?_ | refine noG_ret ?_ | refine noG_normal ?_ | refine noG_exit ?_ | refine W_true rfl ?_ | refine W_false rfl ?_))
  (repeat (first | refine WL_nil ?_ | refine WR_succ ?_ | refine Then_normal ?_ | refine W_seq ?_ | refine W_skip ?_ | refine W_ret ?_ | refine W_exit ?_ | refine W_block ?_ | refine Then_ret ?_ | refine Then_panic ?_ | refine inBlk_panic ?_ | refine Then_exit ?_ | refine inBlk_ret ?_ | refine inBlk_normal ?_ | refine inBlk_here ?_ | refine inBlk_out rfl ?_ | refine W_scope ?_ | refine W_label ?_ | refine noG_ret ?_ | refine noG_normal ?_ | refine noG_exit ?_ | refine W_true rfl ?_ | refine W_false rfl ?_))
  refine W_region rfl ?_
  (first | refine WL_is (X_move rfl rfl) rfl rfl rfl ?_)
  (first | refine WL_is (X_assert_t rfl rfl rfl) rfl rfl rfl ?_ | refine WL_is (X_assert_n rfl rfl rfl rfl) rfl rfl rfl ?_)
  (first | refine WL_is (X_move rfl rfl) rfl rfl rfl ?_)
  (first | refine WL_is (X_extract rfl rfl rfl) rfl rfl rfl ?_)
  (first | refine WL_is (X_extract rfl rfl rfl) rfl rfl rfl ?_)
  (first | (refine WL_alloc rfl rfl rfl rfl rfl rfl ?_; intro b_))
  (first | refine WL_store rfl rfl rfl (by first | exact idx0 | exact idx1 | exact idx2 | exact idx3 | exact idx4 | exact idx5 | exact idx6 | exact idx7) rfl rfl rfl rfl rfl rfl rfl rfl rfl ?_ | refine WL_storeV (sz := 1) rfl rfl rfl (by first | exact idx0 | exact idx1 | exact idx2 | exact idx3 | exact idx4 | exact idx5 | exact idx6 | exact idx7) rfl (by simp only [vc] <;> rfl) rfl rfl (by first | omega | (simp only [List.length_set, List.length_map, List.length_cons]; omega)) rfl rfl (by simp only [wr, List.set_cons_zero, List.set_cons_succ] <;> rfl) (by simp only [List.set_cons_zero, List.set_cons_succ] <;> rfl) ?_ | refine WL_store_spot rfl rfl rfl (by first | exact idx0 | exact idx1 | exact idx2 | exact idx3 | exact idx4 | exact idx5 | exact idx6 | exact idx7) (by first | rfl | omega | (simp only [List.length_set]; first | done | omega)) rfl rfl rfl rfl rfl (by first | omega | (simp only [List.length_set]; omega)) rfl rfl rfl rfl ?_ | refine WL_storeV rfl rfl rfl (by first | exact idx0 | exact idx1 | exact idx2 | exact idx3 | exact idx4 | exact idx5 | exact idx6 | exact idx7) rfl (by simp only [vc] <;> rfl) rfl rfl (by simp; done) rfl rfl (by simp only [wr, List.set_cons_zero, List.set_cons_succ] <;> rfl) (by simp only [List.set_cons_zero, List.set_cons_succ] <;> rfl) ?_)
  (first | refine WL_is (X_assign rfl rfl) rfl rfl rfl ?_)
  (repeat (first | refine WL_nil ?_ | refine WR_succ ?_ | refine Then_normal ?_ | refine W_seq ?_ | refine W_skip ?_ | refine W_ret ?_ | refine W_exit ?_ | refine W_block ?_ | refine Then_ret ?_ | refine Then_panic ?_ | refine inBlk_panic ?_ | refine Then_exit ?_ | refine inBlk_ret ?_ | refine inBlk_normal ?_ | refine inBlk_here ?_ | refine inBlk_out rfl ?_ | refine W_scope ?_ | refine W_label ?_ | refine noG_ret ?_ | refine noG_normal ?_ | refine noG_exit ?_ | refine W_true rfl ?_ | refine W_false rfl ?_))
  (repeat (first | refine WL_nil ?_ | refine WR_succ ?_ | refine Then_normal ?_ | refine W_seq ?_ | refine W_skip ?_ | refine W_ret ?_ | refine W_exit ?_ | refine W_block ?_ | refine Then_ret ?_ | refine Then_panic ?_ | refine inBlk_panic ?_ | refine Then_exit ?_ | refine inBlk_ret ?_ | refine inBlk_normal ?_ | refine inBlk_here ?_ | refine inBlk_out rfl ?_ | refine W_scope ?_ | refine W_label ?_ | refine noG_ret ?_ | refine noG_normal ?_ | refine noG_exit ?_ | refine W_true rfl ?_ | refine W_false rfl ?_))
  refine W_region rfl ?_
  (first | refine WL_is (X_move rfl rfl) rfl rfl rfl ?_)
  (first | refine WL_is (X_assign rfl rfl) rfl rfl rfl ?_)
  (repeat (first | refine WL_nil ?_ | refine WR_succ ?_ | refine Then_normal ?_ | refine W_seq ?_ | refine W_skip ?_ | refine W_ret ?_ | refine W_exit ?_ | refine W_block ?_ | refine Then_ret ?_ | refine Then_panic ?_ | refine inBlk_panic ?_ | refine Then_exit ?_ | refine inBlk_ret ?_ | refine inBlk_normal ?_ | refine inBlk_here ?_ | refine inBlk_out rfl ?_ | refine W_scope ?_ | refine W_label ?_ | refine noG_ret ?_ | refine noG_normal ?_ | refine noG_exit ?_ | refine W_true rfl ?_ | refine W_false rfl ?_))
  (repeat (first | refine WL_nil ?_ | refine WR_succ ?_ | refine Then_normal ?_ | refine W_seq ?_ | refine W_skip ?_ | refine W_ret ?_ | refine W_exit ?_ | refine W_block ?_ | refine Then_ret ?_ | refine Then_panic ?_ | refine inBlk_panic ?_ | refine Then_exit ?_ | refine inBlk_ret ?_ | refine inBlk_normal ?_ | refine inBlk_here ?_ | refine inBlk_out rfl ?_ | refine W_scope ?_ | refine W_label ?_ | refine noG_ret ?_ | refine noG_normal ?_ | refine noG_exit ?_ | refine W_true rfl ?_ | refine W_false rfl ?_))
  refine W_region rfl ?_
  (first | refine WL_is (X_move rfl rfl) rfl rfl rfl ?_)
  (first | refine WL_is (X_neq_t rfl rfl rfl (by omega)) rfl rfl rfl ?_ | refine WL_is (X_neq_f rfl rfl rfl (by omega)) rfl rfl rfl ?_ | refine WL_is (X_neq rfl rfl rfl) rfl rfl rfl ?_ | refine WL_is (X_neB rfl rfl rfl rfl) rfl rfl rfl ?_ | refine WL_is (X_neNil rfl rfl rfl rfl) rfl rfl rfl ?_ | refine WL_is (X_nePn_t rfl rfl rfl rfl) rfl rfl rfl ?_ | refine WL_is (X_nePn_f rfl rfl rfl rfl) rfl rfl rfl ?_ | refine WL_is (X_neS rfl rfl rfl) rfl rfl rfl ?_ | refine WL_is (X_neA 8 heldOk guardOk rfl rfl rfl rfl rfl rfl rfl) rfl rfl rfl ?_)
  (first | refine WL_is (X_assign rfl rfl) rfl rfl rfl ?_)
  (repeat (first | refine WL_nil ?_ | refine WR_succ ?_ | refine Then_normal ?_ | refine W_seq ?_ | refine W_skip ?_ | refine W_ret ?_ | refine W_exit ?_ | refine W_block ?_ | refine Then_ret ?_ | refine Then_panic ?_ | refine inBlk_panic ?_ | refine Then_exit ?_ | refine inBlk_ret ?_ | refine inBlk_normal ?_ | refine inBlk_here ?_ | refine inBlk_out rfl ?_ | refine W_scope ?_ | refine W_label ?_ | refine noG_ret ?_ | refine noG_normal ?_ | refine noG_exit ?_ | refine W_true rfl ?_ | refine W_false rfl ?_))
  refine Body_end0 rfl rfl rfl (SubR.none _) ?_
  rfl
theorem answerP_fn (h : PH) (e : Int) (xb eb : Nat) : Does Try.prog 36 [rfs e, .pointer (some ⟨xb, 0, none⟩), .pointer (some ⟨eb, 0, none⟩)] [blk xb attrC0 31, blk eb [.int .i64 0] 37] h
    (Ret fun _ R' _ => R' = [blk xb attrC0 31, blk eb [.int .i64 e] 37]) := by
  unfold rfs
  refine Does_of_W Try.func36 rfl (n := 26) rfl rfl (by simp only [argE, Nat.reduceAdd] <;> rfl) ?_
  (repeat (first | refine WL_nil ?_ | refine WR_succ ?_ | refine Then_normal ?_ | refine W_seq ?_ | refine W_skip ?_ | refine W_ret ?_ | refine W_exit ?_ | refine W_block ?_ | refine Then_ret ?_ | refine Then_panic ?_ | refine inBlk_panic ?_ | refine Then_exit ?_ | refine inBlk_ret ?_ | refine inBlk_normal ?_ | refine inBlk_here ?_ | refine inBlk_out rfl ?_ | refine W_scope ?_ | refine W_label ?_ | refine noG_ret ?_ | refine noG_normal ?_ | refine noG_exit ?_ | refine W_true rfl ?_ | refine W_false rfl ?_))
  (repeat (first | refine WL_nil ?_ | refine WR_succ ?_ | refine Then_normal ?_ | refine W_seq ?_ | refine W_skip ?_ | refine W_ret ?_ | refine W_exit ?_ | refine W_block ?_ | refine Then_ret ?_ | refine Then_panic ?_ | refine inBlk_panic ?_ | refine Then_exit ?_ | refine inBlk_ret ?_ | refine inBlk_normal ?_ | refine inBlk_here ?_ | refine inBlk_out rfl ?_ | refine W_scope ?_ | refine W_label ?_ | refine noG_ret ?_ | refine noG_normal ?_ | refine noG_exit ?_ | refine W_true rfl ?_ | refine W_false rfl ?_))
  refine W_region rfl ?_
  (first | refine WL_is (X_move rfl rfl) rfl rfl rfl ?_)
  (first | refine WL_is (X_assert_t rfl rfl rfl) rfl rfl rfl ?_ | refine WL_is (X_assert_n rfl rfl rfl rfl) rfl rfl rfl ?_)
  (first | refine WL_is (X_move rfl rfl) rfl rfl rfl ?_)
  (first | refine WL_is (X_extract rfl rfl rfl) rfl rfl rfl ?_)
  (first | refine WL_is (X_extract rfl rfl rfl) rfl rfl rfl ?_)
  (first | (refine WL_alloc rfl rfl rfl rfl rfl rfl ?_; intro b_))
  (first | refine WL_store rfl rfl rfl (by first | exact idx0 | exact idx1 | exact idx2 | exact idx3 | exact idx4 | exact idx5 | exact idx6 | exact idx7) rfl rfl rfl rfl rfl rfl rfl rfl rfl ?_ | refine WL_storeV (sz := 1) rfl rfl rfl (by first | exact idx0 | exact idx1 | exact idx2 | exact idx3 | exact idx4 | exact idx5 | exact idx6 | exact idx7) rfl (by simp only [vc] <;> rfl) rfl rfl (by first | omega | (simp only [List.length_set, List.length_map, List.length_cons]; omega)) rfl rfl (by simp only [wr, List.set_cons_zero, List.set_cons_succ] <;> rfl) (by simp only [List.set_cons_zero, List.set_cons_succ] <;> rfl) ?_ | refine WL_store_spot rfl rfl rfl (by first | exact idx0 | exact idx1 | exact idx2 | exact idx3 | exact idx4 | exact idx5 | exact idx6 | exact idx7) (by first | rfl | omega | (simp only [List.length_set]; first | done | omega)) rfl rfl rfl rfl rfl (by first | omega | (simp only [List.length_set]; omega)) rfl rfl rfl rfl ?_ | refine WL_storeV rfl rfl rfl (by first | exact idx0 | exact idx1 | exact idx2 | exact idx3 | exact idx4 | exact idx5 | exact idx6 | exact idx7) rfl (by simp only [vc] <;> rfl) rfl rfl (by simp; done) rfl rfl (by simp only [wr, List.set_cons_zero, List.set_cons_succ] <;> rfl) (by simp only [List.set_cons_zero, List.set_cons_succ] <;> rfl) ?_)
  (first | refine WL_is (X_assign rfl rfl) rfl rfl rfl ?_)
  (repeat (first | refine WL_nil ?_ | refine WR_succ ?_ | refine Then_normal ?_ | refine W_seq ?_ | refine W_skip ?_ | refine W_ret ?_ | refine W_exit ?_ | refine W_block ?_ | refine Then_ret ?_ | refine Then_panic ?_ | refine inBlk_panic ?_ | refine Then_exit ?_ | refine inBlk_ret ?_ | refine inBlk_normal ?_ | refine inBlk_here ?_ | refine inBlk_out rfl ?_ | refine W_scope ?_ | refine W_label ?_ | refine noG_ret ?_ | refine noG_normal ?_ | refine noG_exit ?_ | refine W_true rfl ?_ | refine W_false rfl ?_))
  (repeat (first | refine WL_nil ?_ | refine WR_succ ?_ | refine Then_normal ?_ | refine W_seq ?_ | refine W_skip ?_ | refine W_ret ?_ | refine W_exit ?_ | refine W_block ?_ | refine Then_ret ?_ | refine Then_panic ?_ | refine inBlk_panic ?_ | refine Then_exit ?_ | refine inBlk_ret ?_ | refine inBlk_normal ?_ | refine inBlk_here ?_ | refine inBlk_out rfl ?_ | refine W_scope ?_ | refine W_label ?_ | refine noG_ret ?_ | refine noG_normal ?_ | refine noG_exit ?_ | refine W_true rfl ?_ | refine W_false rfl ?_))
  refine W_region rfl ?_
  (first | refine WL_is (X_move rfl rfl) rfl rfl rfl ?_)
  (first | refine WL_is (X_assign rfl rfl) rfl rfl rfl ?_)
  (repeat (first | refine WL_nil ?_ | refine WR_succ ?_ | refine Then_normal ?_ | refine W_seq ?_ | refine W_skip ?_ | refine W_ret ?_ | refine W_exit ?_ | refine W_block ?_ | refine Then_ret ?_ | refine Then_panic ?_ | refine inBlk_panic ?_ | refine Then_exit ?_ | refine inBlk_ret ?_ | refine inBlk_normal ?_ | refine inBlk_here ?_ | refine inBlk_out rfl ?_ | refine W_scope ?_ | refine W_label ?_ | refine noG_ret ?_ | refine noG_normal ?_ | refine noG_exit ?_ | refine W_true rfl ?_ | refine W_false rfl ?_))
  generalize b_ = tb
  (repeat (first | refine WL_nil ?_ | refine WR_succ ?_ | refine Then_normal ?_ | refine W_seq ?_ | refine W_skip ?_ | refine W_ret ?_ | refine W_exit ?_ | refine W_block ?_ | refine Then_ret ?_ | refine Then_panic ?_ | refine inBlk_panic ?_ | refine Then_exit ?_ | refine inBlk_ret ?_ | refine inBlk_normal ?_ | refine inBlk_here ?_ | refine inBlk_out rfl ?_ | refine W_scope ?_ | refine W_label ?_ | refine noG_ret ?_ | refine noG_normal ?_ | refine noG_exit ?_ | refine W_true rfl ?_ | refine W_false rfl ?_))
  refine W_draw 7 _ [] [blk tb [.int .i64 e] 75, blk eb [.int .i64 0] 37] rfl rfl rfl (SubE.refl _) rfl ?_
  (first | refine RG_val rfl rfl (fun _ => rfl) (fun _ => X_move rfl rfl) ?_)
  (first | refine RG_val rfl rfl (fun _ => rfl) (fun _ => X_move rfl rfl) ?_)
  (first | refine RG_val rfl rfl (fun _ => rfl) (fun _ => X_build rfl rfl rfl) ?_)
  (first | refine RG_val rfl rfl (fun _ => rfl) (fun _ => X_fieldAddr_spot rfl rfl rfl (by simp only <;> rfl)) ?_ | refine RG_val rfl rfl (fun _ => rfl) (fun _ => X_fieldAddr rfl rfl rfl (by simp only [Nat.zero_add] <;> rfl)) ?_ | (refine RG_fieldAddr_at rfl (fun _ => rfl) (by assumption) rfl rfl rfl (fun _ => rfl) ?_; intro p_ hp_))
  (first | refine RG_val rfl rfl (fun _ => rfl) (fun _ => X_load1 rfl rfl (by first | exact idx0 | exact idx1 | exact idx2 | exact idx3 | exact idx4 | exact idx5 | exact idx6 | exact idx7) rfl rfl) ?_ | refine RG_val rfl rfl (fun _ => rfl) (fun _ => X_loadA rfl rfl (by first | exact idx0 | exact idx1 | exact idx2 | exact idx3 | exact idx4 | exact idx5 | exact idx6 | exact idx7) rfl rfl rfl) ?_ | refine RG_val rfl rfl (fun _ => rfl) (fun _ => X_load1_at rfl rfl (by assumption) rfl rfl) ?_ | refine RG_val rfl rfl (fun _ => rfl) (fun _ => X_load1 rfl rfl (by first | exact idx0 | exact idx1 | exact idx2 | exact idx3 | exact idx4 | exact idx5 | exact idx6 | exact idx7) rfl (by assumption)) ?_ | refine RG_val rfl rfl (fun _ => rfl) (fun _ => X_loadA_at rfl rfl (by assumption) rfl rfl rfl) ?_ | refine RG_val rfl rfl (fun _ => rfl) (fun _ => X_load_spot rfl rfl (by first | exact idx0 | exact idx1 | exact idx2 | exact idx3 | exact idx4 | exact idx5 | exact idx6 | exact idx7) (by first | rfl | omega | (simp only [List.length_set]; first | done | omega)) rfl (by first | omega | (simp only [List.length_set]; omega)) rfl) ?_ | refine RG_val rfl rfl (fun _ => rfl) (fun _ => X_loadAll (sz := 1) rfl rfl (by first | exact idx0 | exact idx1 | exact idx2 | exact idx3 | exact idx4 | exact idx5 | exact idx6 | exact idx7) rfl rfl (by simp only [List.length_map, List.length_set]; omega)) ?_ | refine RG_val rfl rfl (fun _ => rfl) (fun _ => X_loadA_spot rfl rfl (by first | exact idx0 | exact idx1 | exact idx2 | exact idx3 | exact idx4 | exact idx5 | exact idx6 | exact idx7) (by first | rfl | omega | (simp only [List.length_set]; first | done | omega)) rfl rfl rfl (by first | omega | (simp only [List.length_set]; omega)) rfl) ?_)
  (first | refine RG_val rfl rfl (fun _ => rfl) (fun _ => X_nilCheck rfl rfl) ?_)
  refine RG_storeC (t0 := 31) (b := xb) (off := 0) (sz := 19) (c := attrC0) rfl (fun _ => rfl) (fun _ => rfl) rfl rfl rfl rfl rfl rfl (fun _ => rfl) rfl ?_
  refine RG_nil ?_
  refine RG_endC ((List.Perm.trans (perm_front 1 rfl) (.refl _))) (fun vs => by simp only [endE, List.cons_append, List.nil_append] <;> rfl) (fun vs => by simp only [endR, List.cons_append, List.nil_append, List.append_nil] <;> rfl) (fun vs h' hf => hf) ?_
  rintro vs h3 hl3 -
  (first | refine WL_is (X_nilCheck rfl rfl) rfl rfl rfl ?_)
  (first | refine WL_store rfl rfl rfl (by first | exact idx0 | exact idx1 | exact idx2 | exact idx3 | exact idx4 | exact idx5 | exact idx6 | exact idx7) rfl rfl rfl rfl rfl rfl rfl rfl rfl ?_ | refine WL_storeV (sz := 1) rfl rfl rfl (by first | exact idx0 | exact idx1 | exact idx2 | exact idx3 | exact idx4 | exact idx5 | exact idx6 | exact idx7) rfl (by simp only [vc] <;> rfl) rfl rfl (by first | omega | (simp only [List.length_set, List.length_map, List.length_cons]; omega)) rfl rfl (by simp only [wr, List.set_cons_zero, List.set_cons_succ] <;> rfl) (by simp only [List.set_cons_zero, List.set_cons_succ] <;> rfl) ?_ | refine WL_store_spot rfl rfl rfl (by first | exact idx0 | exact idx1 | exact idx2 | exact idx3 | exact idx4 | exact idx5 | exact idx6 | exact idx7) (by first | rfl | omega | (simp only [List.length_set]; first | done | omega)) rfl rfl rfl rfl rfl (by first | omega | (simp only [List.length_set]; omega)) rfl rfl rfl rfl ?_ | refine WL_storeV rfl rfl rfl (by first | exact idx0 | exact idx1 | exact idx2 | exact idx3 | exact idx4 | exact idx5 | exact idx6 | exact idx7) rfl (by simp only [vc] <;> rfl) rfl rfl (by simp; done) rfl rfl (by simp only [wr, List.set_cons_zero, List.set_cons_succ] <;> rfl) (by simp only [List.set_cons_zero, List.set_cons_succ] <;> rfl) ?_)
  (repeat (first | refine WL_nil ?_ | refine WR_succ ?_ | refine Then_normal ?_ | refine W_seq ?_ | refine W_skip ?_ | refine W_ret ?_ | refine W_exit ?_ | refine W_block ?_ | refine Then_ret ?_ | refine Then_panic ?_ | refine inBlk_panic ?_ | refine Then_exit ?_ | refine inBlk_ret ?_ | refine inBlk_normal ?_ | refine inBlk_here ?_ | refine inBlk_out rfl ?_ | refine W_scope ?_ | refine W_label ?_ | refine noG_ret ?_ | refine noG_normal ?_ | refine noG_exit ?_ | refine W_true rfl ?_ | refine W_false rfl ?_))
  refine Body_vals0 .nil rfl ?_
  exact UpdE.sub (SubR.trans (SubR.of_perm (perm_front 1 rfl)) (SubR.skip _ (SubR.refl _))) rfl
/-! The call that is put off. -/
def pt (b : Nat) : Value := .pointer (some ⟨b, 0, none⟩)
def DNx (g : FuncId) : Prop := ∀ (h : PH) (R : List SL) (p q : Value), DoesD Try.prog g [p, q] R h .returning fun u' R' _ => u' = .returning ∧ R' = R
def DPx (g : FuncId) : Prop := ∀ (h : PH) (R R2 : List SL) (xb eb : Nat) (e : Int), R.Perm ([blk xb attrC0 31, blk eb [.int .i64 0] 37] ++ R2) →
  DoesD Try.prog g [pt xb, pt eb] R h (.panicking [{ v := rfs e, recovered := false }]) fun u' R' _ => u' = .panicking [{ v := rfs e, recovered := true }] ∧ R' = [blk xb attrC0 31, blk eb [.int .i64 e] 37] ++ R2
theorem dn_Chmod : DNx 51 := fun h R p q =>
  DoesD_recover (n := 4) (E := [(0, p), (1, q)]) Try.func51 rfl rfl rfl rfl rfl rfl rfl rfl rfl rfl (fun _ e => by injection e with e; subst e; decide) rfl (.inl ⟨rfl, rfl, rfl⟩)
    (X_call (R1 := []) (R2 := R) rfl rfl rfl Try.func36 rfl (.refl _) (answerN_fn h p q)) fun e R' h' _ ⟨R1', e1, hA⟩ => by
      cases e with
      | returned v => have hA : R1' = [] := hA; subst hA; exact ⟨⟨v, rfl⟩, rfl, e1⟩
      | panicked ch => exact hA.elim
      | outgrown => exact hA.elim
theorem dp_Chmod : DPx 51 := fun h R R2 xb eb e hp =>
  DoesD_recover (n := 4) (E := [(0, pt xb), (1, pt eb)]) Try.func51 rfl rfl rfl rfl rfl rfl rfl rfl rfl rfl (fun _ e => by injection e with e; subst e; decide) rfl (.inr ⟨rfl, rfl⟩)
    (X_call (R2 := R2) rfl rfl rfl Try.func36 rfl hp (answerP_fn h e xb eb)) fun x R' h' _ ⟨R1', e1, hA⟩ => by
      cases x with
      | returned v => have hA : R1' = _ := hA; subst hA; exact ⟨⟨v, rfl⟩, rfl, e1⟩
      | panicked ch => exact hA.elim
      | outgrown => exact hA.elim
theorem dn_Chown : DNx 53 := fun h R p q =>
  DoesD_recover (n := 4) (E := [(0, p), (1, q)]) Try.func53 rfl rfl rfl rfl rfl rfl rfl rfl rfl rfl (fun _ e => by injection e with e; subst e; decide) rfl (.inl ⟨rfl, rfl, rfl⟩)
    (X_call (R1 := []) (R2 := R) rfl rfl rfl Try.func36 rfl (.refl _) (answerN_fn h p q)) fun e R' h' _ ⟨R1', e1, hA⟩ => by
      cases e with
      | returned v => have hA : R1' = [] := hA; subst hA; exact ⟨⟨v, rfl⟩, rfl, e1⟩
      | panicked ch => exact hA.elim
      | outgrown => exact hA.elim
theorem dp_Chown : DPx 53 := fun h R R2 xb eb e hp =>
  DoesD_recover (n := 4) (E := [(0, pt xb), (1, pt eb)]) Try.func53 rfl rfl rfl rfl rfl rfl rfl rfl rfl rfl (fun _ e => by injection e with e; subst e; decide) rfl (.inr ⟨rfl, rfl⟩)
    (X_call (R2 := R2) rfl rfl rfl Try.func36 rfl hp (answerP_fn h e xb eb)) fun x R' h' _ ⟨R1', e1, hA⟩ => by
      cases x with
      | returned v => have hA : R1' = _ := hA; subst hA; exact ⟨⟨v, rfl⟩, rfl, e1⟩
      | panicked ch => exact hA.elim
      | outgrown => exact hA.elim
theorem dn_SetAcl : DNx 35 := fun h R p q =>
  DoesD_recover (n := 4) (E := [(0, p), (1, q)]) Try.func35 rfl rfl rfl rfl rfl rfl rfl rfl rfl rfl (fun _ e => by injection e with e; subst e; decide) rfl (.inl ⟨rfl, rfl, rfl⟩)
    (X_call (R1 := []) (R2 := R) rfl rfl rfl Try.func36 rfl (.refl _) (answerN_fn h p q)) fun e R' h' _ ⟨R1', e1, hA⟩ => by
      cases e with
      | returned v => have hA : R1' = [] := hA; subst hA; exact ⟨⟨v, rfl⟩, rfl, e1⟩
      | panicked ch => exact hA.elim
      | outgrown => exact hA.elim
theorem dp_SetAcl : DPx 35 := fun h R R2 xb eb e hp =>
  DoesD_recover (n := 4) (E := [(0, pt xb), (1, pt eb)]) Try.func35 rfl rfl rfl rfl rfl rfl rfl rfl rfl rfl (fun _ e => by injection e with e; subst e; decide) rfl (.inr ⟨rfl, rfl⟩)
    (X_call (R2 := R2) rfl rfl rfl Try.func36 rfl hp (answerP_fn h e xb eb)) fun x R' h' _ ⟨R1', e1, hA⟩ => by
      cases x with
      | returned v => have hA : R1' = _ := hA; subst hA; exact ⟨⟨v, rfl⟩, rfl, e1⟩
      | panicked ch => exact hA.elim
      | outgrown => exact hA.elim
section
variable {n : Nat} {fn gn : Func} {g : FuncId} {K : Post} {E : Env} {R R2 : List SL} {h : PH} {p q : Value} {xb eb : Nat}
/-- Its frame returns. -/
theorem fin_ret (dn : DNx g) (hg : Try.prog.funcs[g]? = some gn) (hc : callable gn = true) (hr : ∀ h', le h h' → RetOk Try.prog n fn ⟨E, [], R, h'⟩ K) :
    ∃ g' gn' ca', Try.prog.funcs[g']? = some gn' ∧ callable gn' = true ∧ BodyD Try.prog n fn g' ca' K .ret ⟨E, [dfr g #[p, q]], R, h⟩ := by
  refine ⟨g, gn, #[p, q], hg, hc, rfl, ?_⟩
  intro κ h0 f' w hf hw
  refine (dn h R p q κ h0 f' w hf hw).mono ?_
  rintro e u' w' ⟨hv, R', h', hl, hs, rfl, rfl⟩
  exact ⟨hv, R', h', hl, hs, rfl, hr h' hl⟩
/-- It panics. -/
theorem fin_pan {e : Int} (dp : DPx g) (hg : Try.prog.funcs[g]? = some gn) (hc : callable gn = true) (hp : R.Perm ([blk xb attrC0 31, blk eb [.int .i64 0] 37] ++ R2))
    (hr : ∀ h', le h h' → RetOk Try.prog n fn ⟨E, [], [blk xb attrC0 31, blk eb [.int .i64 e] 37] ++ R2, h'⟩ K) :
    ∃ g' gn' ca', Try.prog.funcs[g']? = some gn' ∧ callable gn' = true ∧ BodyD Try.prog n fn g' ca' K (.panic [{ v := rfs e, recovered := false }]) ⟨E, [dfr g #[pt xb, pt eb]], R, h⟩ := by
  refine ⟨g, gn, #[pt xb, pt eb], hg, hc, rfl, ?_⟩
  intro κ h0 f' w hf hw
  refine (dp h R R2 xb eb e hp κ h0 f' w hf hw).mono ?_
  rintro x u' w' ⟨hv, R', h', hl, hs, rfl, rfl⟩
  exact ⟨hv, _, h', hl, hs, rfl, hr h' hl⟩
end
end Go.Proofs.Ytligadbnoiibnaa
