/- Files: the chapter's examples. -/
import Derived.Test.YtoocbfpomamdeaaFileJ
namespace Go.Proofs.Ytoocbfpomamdeaa
set_option maxRecDepth 4000
open Go Go.Par PH
def someL : List Int := [7, 0, 9, 0, 0, 0, 0, 0, 0, 0, 0, 0, 0, 0, 0, 0, 0, 0, 0, 0, 0, 0, 0, 0, 0, 0, 0, 0, 0, 0, 0, 0]
theorem ex1 : needE someL 250 20 = 0 := by kernel_rfl
theorem ex2 : needL someL 250 20 = [1] := by kernel_rfl
theorem ex3 : needE someL 8192 1 = 627 := by kernel_rfl
theorem ex4 : pcE someL 4 ⟨#[97, 98, 99, 100, 101, 102]⟩ = 0 := by kernel_rfl
theorem ex5 : pcL someL 4 ⟨#[97, 98, 99, 100, 101, 102]⟩ = [(7, 0, 4, ⟨#[97, 98, 99, 100]⟩), (7, 1, 0, ⟨#[101, 102]⟩)] := by kernel_rfl
theorem ex6 : mrgW 0 6 ⟨#[97, 98]⟩ = 7088947288457871360 := by kernel_rfl
theorem ex7 : mrgE 6 ⟨#[97, 98]⟩ = 0 := by kernel_rfl
theorem ex8 : cutE someL 100 = 0 := by kernel_rfl
theorem ex9 : leftC someL 100 = [7, 0, 0, 0, 0, 0, 0, 0, 0, 0, 0, 0, 0, 0, 0, 0, 0, 0, 0, 0, 0, 0, 0, 0, 0, 0, 0, 0, 0, 0, 0, 0] := by kernel_rfl
theorem ex10 : goneC someL 100 = [9] := by kernel_rfl
theorem ex11 : tailC someL 100 = (7, 12, 4, ⟨#[]⟩) := by kernel_rfl
theorem zero32 : (List.replicate 32 [Value.int .i64 0]).flatten = (List.replicate 32 (0 : Int)).flatMap encI := rfl
theorem someSet : ((List.replicate 32 (0 : Int)).set 0 7).set 2 9 = someL := rfl
attribute [local irreducible] W WL Does Exec Body Then inBlk RG WR row obj pblk
set_option maxHeartbeats 1000000 in
theorem some_fn (h : PH) : Does Try.prog 18 [] [] h (Ret fun r R' h' => R' = [] ∧ Sl encI 1 h' r someL) := by
  refine Does_of_W Try.func18 rfl (n := 8) rfl rfl (by simp only [argE] <;> rfl) ?_
  (repeat (first | refine WL_nil ?_ | refine WR_succ ?_ | refine Then_normal ?_ | refine W_seq ?_ | refine W_skip ?_ | refine W_ret ?_ | refine W_exit ?_ | refine W_block ?_ | refine Then_ret ?_ | refine Then_panic ?_ | refine inBlk_panic ?_ | refine Then_exit ?_ | refine inBlk_ret ?_ | refine inBlk_normal ?_ | refine inBlk_here ?_ | refine inBlk_out rfl ?_ | refine W_scope ?_ | refine W_label ?_ | refine noG_ret ?_ | refine noG_normal ?_ | refine noG_exit ?_ | refine W_true rfl ?_ | refine W_false rfl ?_))
  (repeat (first | refine WL_nil ?_ | refine WR_succ ?_ | refine Then_normal ?_ | refine W_seq ?_ | refine W_skip ?_ | refine W_ret ?_ | refine W_exit ?_ | refine W_block ?_ | refine Then_ret ?_ | refine Then_panic ?_ | refine inBlk_panic ?_ | refine Then_exit ?_ | refine inBlk_ret ?_ | refine inBlk_normal ?_ | refine inBlk_here ?_ | refine inBlk_out rfl ?_ | refine W_scope ?_ | refine W_label ?_ | refine noG_ret ?_ | refine noG_normal ?_ | refine noG_exit ?_ | refine W_true rfl ?_ | refine W_false rfl ?_))
  refine W_region rfl ?_
  (first | refine WL_is (X_assign rfl rfl) rfl rfl rfl ?_)
  (repeat (first | refine WL_nil ?_ | refine WR_succ ?_ | refine Then_normal ?_ | refine W_seq ?_ | refine W_skip ?_ | refine W_ret ?_ | refine W_exit ?_ | refine W_block ?_ | refine Then_ret ?_ | refine Then_panic ?_ | refine inBlk_panic ?_ | refine Then_exit ?_ | refine inBlk_ret ?_ | refine inBlk_normal ?_ | refine inBlk_here ?_ | refine inBlk_out rfl ?_ | refine W_scope ?_ | refine W_label ?_ | refine noG_ret ?_ | refine noG_normal ?_ | refine noG_exit ?_ | refine W_true rfl ?_ | refine W_false rfl ?_))
  (repeat (first | refine WL_nil ?_ | refine WR_succ ?_ | refine Then_normal ?_ | refine W_seq ?_ | refine W_skip ?_ | refine W_ret ?_ | refine W_exit ?_ | refine W_block ?_ | refine Then_ret ?_ | refine Then_panic ?_ | refine inBlk_panic ?_ | refine Then_exit ?_ | refine inBlk_ret ?_ | refine inBlk_normal ?_ | refine inBlk_here ?_ | refine inBlk_out rfl ?_ | refine W_scope ?_ | refine W_label ?_ | refine noG_ret ?_ | refine noG_normal ?_ | refine noG_exit ?_ | refine W_true rfl ?_ | refine W_false rfl ?_))
  refine W_region rfl ?_
  refine WL_make (m := 32) rfl rfl rfl rfl rfl rfl rfl rfl rfl (by decide) (by decide) rfl rfl rfl ?_
  intro b
  rw [zero32]
  refine WL_upd (Upd.blkrow (cap := 32) (m := 32) (sz := 1) (xs := (List.replicate 32 (0 : Int)).flatMap encI) 0 rfl (Nat.le_refl _) rfl rfl) ?_
  simp only [List.set_cons_zero]
  refine WL_weaken (SubE.refl _) (R1 := [rowL encI (.slice (some ⟨b, 0, none⟩) 32 32) 3 1 (List.replicate 32 (0 : Int))]) (SubR.refl _) ?_
  generalize hL : List.replicate 32 (0 : Int) = L
  have hl32 : L.length = 32 := by rw [← hL]; rfl
  have hset : (L.set 0 7).set 2 9 = someL := by rw [← hL]; exact someSet
  (first | refine WL_is (X_assign rfl rfl) rfl rfl rfl ?_)
  (repeat (first | refine WL_nil ?_ | refine WR_succ ?_ | refine Then_normal ?_ | refine W_seq ?_ | refine W_skip ?_ | refine W_ret ?_ | refine W_exit ?_ | refine W_block ?_ | refine Then_ret ?_ | refine Then_panic ?_ | refine inBlk_panic ?_ | refine Then_exit ?_ | refine inBlk_ret ?_ | refine inBlk_normal ?_ | refine inBlk_here ?_ | refine inBlk_out rfl ?_ | refine W_scope ?_ | refine W_label ?_ | refine noG_ret ?_ | refine noG_normal ?_ | refine noG_exit ?_ | refine W_true rfl ?_ | refine W_false rfl ?_))
  (repeat (first | refine WL_nil ?_ | refine WR_succ ?_ | refine Then_normal ?_ | refine W_seq ?_ | refine W_skip ?_ | refine W_ret ?_ | refine W_exit ?_ | refine W_block ?_ | refine Then_ret ?_ | refine Then_panic ?_ | refine inBlk_panic ?_ | refine Then_exit ?_ | refine inBlk_ret ?_ | refine inBlk_normal ?_ | refine inBlk_here ?_ | refine inBlk_out rfl ?_ | refine W_scope ?_ | refine W_label ?_ | refine noG_ret ?_ | refine noG_normal ?_ | refine noG_exit ?_ | refine W_true rfl ?_ | refine W_false rfl ?_))
  refine W_region rfl ?_
  (first | refine WL_is (X_move rfl rfl) rfl rfl rfl ?_)
  refine WL_is (X_index_spot (j := 0) rfl rfl rfl rfl rfl (by omega)) rfl rfl rfl ?_
  (first | refine WL_store rfl rfl rfl (by first | exact idx0 | exact idx1 | exact idx2 | exact idx3 | exact idx4 | exact idx5 | exact idx6 | exact idx7) rfl rfl rfl rfl rfl rfl rfl rfl rfl ?_ | refine WL_storeV (sz := 1) rfl rfl rfl (by first | exact idx0 | exact idx1 | exact idx2 | exact idx3 | exact idx4 | exact idx5 | exact idx6 | exact idx7) rfl (by simp only [vc] <;> rfl) rfl rfl (by first | omega | (simp only [List.length_set, List.length_map, List.length_cons]; omega)) rfl rfl (by simp only [wr, List.set_cons_zero, List.set_cons_succ] <;> rfl) (by simp only [List.set_cons_zero, List.set_cons_succ] <;> rfl) ?_ | refine WL_store_spot rfl rfl rfl (by first | exact idx0 | exact idx1 | exact idx2 | exact idx3 | exact idx4 | exact idx5 | exact idx6 | exact idx7) (by first | rfl | omega | (simp only [List.length_set]; first | done | omega)) rfl rfl rfl rfl rfl (by first | omega | (simp only [List.length_set]; omega)) rfl rfl rfl rfl ?_ | refine WL_storeV rfl rfl rfl (by first | exact idx0 | exact idx1 | exact idx2 | exact idx3 | exact idx4 | exact idx5 | exact idx6 | exact idx7) rfl (by simp only [vc] <;> rfl) rfl rfl (by simp; done) rfl rfl (by simp only [wr, List.set_cons_zero, List.set_cons_succ] <;> rfl) (by simp only [List.set_cons_zero, List.set_cons_succ] <;> rfl) ?_)
  (repeat (first | refine WL_nil ?_ | refine WR_succ ?_ | refine Then_normal ?_ | refine W_seq ?_ | refine W_skip ?_ | refine W_ret ?_ | refine W_exit ?_ | refine W_block ?_ | refine Then_ret ?_ | refine Then_panic ?_ | refine inBlk_panic ?_ | refine Then_exit ?_ | refine inBlk_ret ?_ | refine inBlk_normal ?_ | refine inBlk_here ?_ | refine inBlk_out rfl ?_ | refine W_scope ?_ | refine W_label ?_ | refine noG_ret ?_ | refine noG_normal ?_ | refine noG_exit ?_ | refine W_true rfl ?_ | refine W_false rfl ?_))
  have hl2 : (L.set 0 7).length = 32 := by rw [List.length_set]; exact hl32
  generalize L.set 0 7 = L2 at hl2 hset ⊢
  (repeat (first | refine WL_nil ?_ | refine WR_succ ?_ | refine Then_normal ?_ | refine W_seq ?_ | refine W_skip ?_ | refine W_ret ?_ | refine W_exit ?_ | refine W_block ?_ | refine Then_ret ?_ | refine Then_panic ?_ | refine inBlk_panic ?_ | refine Then_exit ?_ | refine inBlk_ret ?_ | refine inBlk_normal ?_ | refine inBlk_here ?_ | refine inBlk_out rfl ?_ | refine W_scope ?_ | refine W_label ?_ | refine noG_ret ?_ | refine noG_normal ?_ | refine noG_exit ?_ | refine W_true rfl ?_ | refine W_false rfl ?_))
  refine W_region rfl ?_
  (first | refine WL_is (X_move rfl rfl) rfl rfl rfl ?_)
  refine WL_is (X_index_spot (j := 2) rfl rfl rfl rfl rfl (by omega)) rfl rfl rfl ?_
  (first | refine WL_store rfl rfl rfl (by first | exact idx0 | exact idx1 | exact idx2 | exact idx3 | exact idx4 | exact idx5 | exact idx6 | exact idx7) rfl rfl rfl rfl rfl rfl rfl rfl rfl ?_ | refine WL_storeV (sz := 1) rfl rfl rfl (by first | exact idx0 | exact idx1 | exact idx2 | exact idx3 | exact idx4 | exact idx5 | exact idx6 | exact idx7) rfl (by simp only [vc] <;> rfl) rfl rfl (by first | omega | (simp only [List.length_set, List.length_map, List.length_cons]; omega)) rfl rfl (by simp only [wr, List.set_cons_zero, List.set_cons_succ] <;> rfl) (by simp only [List.set_cons_zero, List.set_cons_succ] <;> rfl) ?_ | refine WL_store_spot rfl rfl rfl (by first | exact idx0 | exact idx1 | exact idx2 | exact idx3 | exact idx4 | exact idx5 | exact idx6 | exact idx7) (by first | rfl | omega | (simp only [List.length_set]; first | done | omega)) rfl rfl rfl rfl rfl (by first | omega | (simp only [List.length_set]; omega)) rfl rfl rfl rfl ?_ | refine WL_storeV rfl rfl rfl (by first | exact idx0 | exact idx1 | exact idx2 | exact idx3 | exact idx4 | exact idx5 | exact idx6 | exact idx7) rfl (by simp only [vc] <;> rfl) rfl rfl (by simp; done) rfl rfl (by simp only [wr, List.set_cons_zero, List.set_cons_succ] <;> rfl) (by simp only [List.set_cons_zero, List.set_cons_succ] <;> rfl) ?_)
  (repeat (first | refine WL_nil ?_ | refine WR_succ ?_ | refine Then_normal ?_ | refine W_seq ?_ | refine W_skip ?_ | refine W_ret ?_ | refine W_exit ?_ | refine W_block ?_ | refine Then_ret ?_ | refine Then_panic ?_ | refine inBlk_panic ?_ | refine Then_exit ?_ | refine inBlk_ret ?_ | refine inBlk_normal ?_ | refine inBlk_here ?_ | refine inBlk_out rfl ?_ | refine W_scope ?_ | refine W_label ?_ | refine noG_ret ?_ | refine noG_normal ?_ | refine noG_exit ?_ | refine W_true rfl ?_ | refine W_false rfl ?_))
  (repeat (first | refine WL_nil ?_ | refine WR_succ ?_ | refine Then_normal ?_ | refine W_seq ?_ | refine W_skip ?_ | refine W_ret ?_ | refine W_exit ?_ | refine W_block ?_ | refine Then_ret ?_ | refine Then_panic ?_ | refine inBlk_panic ?_ | refine Then_exit ?_ | refine inBlk_ret ?_ | refine inBlk_normal ?_ | refine inBlk_here ?_ | refine inBlk_out rfl ?_ | refine W_scope ?_ | refine W_label ?_ | refine noG_ret ?_ | refine noG_normal ?_ | refine noG_exit ?_ | refine W_true rfl ?_ | refine W_false rfl ?_))
  refine W_region rfl ?_
  (first | refine WL_is (X_move rfl rfl) rfl rfl rfl ?_)
  (first | refine WL_is (X_assign rfl rfl) rfl rfl rfl ?_)
  (repeat (first | refine WL_nil ?_ | refine WR_succ ?_ | refine Then_normal ?_ | refine W_seq ?_ | refine W_skip ?_ | refine W_ret ?_ | refine W_exit ?_ | refine W_block ?_ | refine Then_ret ?_ | refine Then_panic ?_ | refine inBlk_panic ?_ | refine Then_exit ?_ | refine inBlk_ret ?_ | refine inBlk_normal ?_ | refine inBlk_here ?_ | refine inBlk_out rfl ?_ | refine W_scope ?_ | refine W_label ?_ | refine noG_ret ?_ | refine noG_normal ?_ | refine noG_exit ?_ | refine W_true rfl ?_ | refine W_false rfl ?_))
  refine Body_vals (.cons (.tmp rfl) .nil) rfl ?_
  rw [hset]
  refine (UpdE.row 0 rfl (lenI _)).mono ?_
  rintro R' h' - ⟨rfl, hs⟩
  exact ⟨rfl, hs⟩
end Go.Proofs.Ytoocbfpomamdeaa
