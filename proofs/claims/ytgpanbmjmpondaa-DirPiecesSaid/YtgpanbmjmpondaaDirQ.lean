/- Directories: copies, and which are the same. -/
import Derived.Test.YtgpanbmjmpondaaDirP
namespace Go.Proofs.Ytgpanbmjmpondaa
set_option maxRecDepth 4000
open Go Go.Par PH
def CopA (d : Dr) (r : Value) (R' : List SL) : Prop := ∃ a0 c0 a1 c1 a2 c2 a3 c3, r = drV (.slice a0 d.b0.length c0) (.slice a1 d.b1.length c1) (.slice a2 d.b2.length c2) (.slice a3 d.b3.length c3) ∧
  R' = [rowL encChu (.slice a3 d.b3.length c3) 67 31 d.b3, rowL encChu (.slice a2 d.b2.length c2) 67 31 d.b2, rowL encChu (.slice a1 d.b1.length c1) 67 31 d.b1, rowL encChu (.slice a0 d.b0.length c0) 67 31 d.b0]
attribute [local irreducible] W WL Does Exec Body Then inBlk RG WR row obj pblk
set_option maxHeartbeats 4000000 in
theorem copyO_fn (h : PH) (v : Value) (d : Dr) (hv : DrV h v d) (hb : maxR d ≤ 1000000) : Does Try.prog 9 [v] [] h (Ret fun r R' _ => CopA d r R') := by
  have hb0 := Nat.le_trans (row_le d 0) hb
  have hb1 := Nat.le_trans (row_le d 1) hb
  have hb2 := Nat.le_trans (row_le d 2) hb
  have hb3 := Nat.le_trans (row_le d 3) hb
  obtain ⟨b0, b1, b2, b3⟩ := d
  obtain ⟨x0, x1, x2, x3, rfl, h0, h1, h2, h3⟩ := hv
  simp only [Dr.row] at h0 h1 h2 h3 hb0 hb1 hb2 hb3
  clear hb
  obtain ⟨_, _, rfl⟩ := h0.shape
  obtain ⟨_, _, rfl⟩ := h1.shape
  obtain ⟨_, _, rfl⟩ := h2.shape
  obtain ⟨_, _, rfl⟩ := h3.shape
  unfold drV
  refine Does_of_W Try.func9 rfl (n := 17) rfl rfl (by simp only [argE] <;> rfl) ?_
  (repeat (first | refine W_seq ?_))
  skip
  refine W_region rfl ?_
  (refine WL_box rfl rfl rfl rfl rfl rfl ?_; intro b_)
  (refine WL_alloc rfl rfl rfl rfl rfl rfl ?_; intro b_)
  (repeat (first | refine WL_nil ?_ | refine Then_normal ?_ | refine W_seq ?_))
  skip
  refine W_region rfl ?_
  refine WL_is (X_assign rfl rfl) rfl rfl rfl ?_
  (repeat (first | refine WL_nil ?_ | refine Then_normal ?_ | refine W_block ?_))
  refine W_rounds 5 ?_
  (repeat (first | refine WR_succ ?_ | refine W_seq ?_))
  refine W_region rfl ?_
  refine WL_is (X_move rfl rfl) rfl rfl rfl ?_
  refine WL_is (X_lss_t rfl rfl rfl (by omega)) rfl rfl rfl ?_
  (repeat (first | refine WL_nil ?_ | refine Then_normal ?_ | refine W_seq ?_ | refine W_skip ?_ | refine W_block ?_ | refine W_true rfl ?_))
  skip
  refine W_region rfl ?_
  refine WL_is (X_move rfl rfl) rfl rfl rfl ?_
  refine WL_is (X_move rfl rfl) rfl rfl rfl ?_
  refine WL_is (X_fieldAddr rfl rfl rfl (by simp only [Nat.zero_add] <;> rfl)) rfl rfl rfl ?_
  refine WL_is (X_index_arr (sz := 1) rfl rfl rfl rfl rfl (by omega) (by omega) (by simp only [Nat.zero_add, Int.toNat_zero, Nat.mul_one] <;> rfl)) rfl rfl rfl ?_
  refine WL_is (X_load1 rfl rfl (by exact idx1) rfl rfl) rfl rfl rfl ?_
  refine WL_append_nil (enc := encChu) rfl rfl rfl elemC rfl (Src.sl h0) (flatC _) (by omega) (by omega) rfl rfl rfl ?_
  intro y0
  refine WL_updE (UpdE.shapeL 0 rfl) ?_
  rintro _ _ - ⟨rfl, rfl, a0, c0, rfl⟩
  refine WL_is (X_fieldAddr rfl rfl rfl (by simp only [Nat.zero_add] <;> rfl)) rfl rfl rfl ?_
  refine WL_is (X_index_arr (sz := 1) rfl rfl rfl rfl rfl (by omega) (by omega) (by simp only [Nat.zero_add, Int.toNat_zero, Nat.mul_one] <;> rfl)) rfl rfl rfl ?_
  refine WL_store rfl rfl rfl (by exact idx2) rfl rfl rfl rfl rfl rfl rfl rfl rfl ?_
  (repeat (first | refine WL_nil ?_ | refine Then_normal ?_ | refine inBlk_normal ?_))
  skip
  refine W_region rfl ?_
  refine WL_is (X_move rfl rfl) rfl rfl rfl ?_
  refine WL_is (X_addW rfl rfl rfl (by refine wrapL (by simp only [Int.reduceAdd] <;> rfl) ?_; decide)) rfl rfl rfl ?_
  refine WL_is (X_assign rfl rfl) rfl rfl rfl ?_
  (repeat (first | refine WL_nil ?_ | refine WR_succ ?_ | refine Then_normal ?_ | refine W_seq ?_))
  skip
  refine W_region rfl ?_
  refine WL_is (X_move rfl rfl) rfl rfl rfl ?_
  refine WL_is (X_lss_t rfl rfl rfl (by omega)) rfl rfl rfl ?_
  (repeat (first | refine WL_nil ?_ | refine Then_normal ?_ | refine W_seq ?_ | refine W_skip ?_ | refine W_block ?_ | refine W_true rfl ?_))
  skip
  refine W_region rfl ?_
  refine WL_is (X_move rfl rfl) rfl rfl rfl ?_
  refine WL_is (X_move rfl rfl) rfl rfl rfl ?_
  refine WL_is (X_fieldAddr rfl rfl rfl (by simp only [Nat.zero_add] <;> rfl)) rfl rfl rfl ?_
  refine WL_is (X_index_arr (sz := 1) rfl rfl rfl rfl rfl (by omega) (by omega) (by simp only [Nat.zero_add, Int.toNat_one, Nat.mul_one] <;> rfl)) rfl rfl rfl ?_
  refine WL_is (X_load1 rfl rfl (by exact idx2) rfl rfl) rfl rfl rfl ?_
  refine WL_append_nil (enc := encChu) rfl rfl rfl elemC rfl (Src.sl h1) (flatC _) (by omega) (by omega) rfl rfl rfl ?_
  intro y1
  refine WL_updE (UpdE.shapeL 0 rfl) ?_
  rintro _ _ - ⟨rfl, rfl, a1, c1, rfl⟩
  refine WL_is (X_fieldAddr rfl rfl rfl (by simp only [Nat.zero_add] <;> rfl)) rfl rfl rfl ?_
  refine WL_is (X_index_arr (sz := 1) rfl rfl rfl rfl rfl (by omega) (by omega) (by simp only [Nat.zero_add, Int.toNat_one, Nat.mul_one] <;> rfl)) rfl rfl rfl ?_
  refine WL_store rfl rfl rfl (by exact idx3) rfl rfl rfl rfl rfl rfl rfl rfl rfl ?_
  (repeat (first | refine WL_nil ?_ | refine Then_normal ?_ | refine inBlk_normal ?_))
  skip
  refine W_region rfl ?_
  refine WL_is (X_move rfl rfl) rfl rfl rfl ?_
  refine WL_is (X_addW rfl rfl rfl (by refine wrapL (by simp only [Int.reduceAdd] <;> rfl) ?_; decide)) rfl rfl rfl ?_
  refine WL_is (X_assign rfl rfl) rfl rfl rfl ?_
  (repeat (first | refine WL_nil ?_ | refine WR_succ ?_ | refine Then_normal ?_ | refine W_seq ?_))
  skip
  refine W_region rfl ?_
  refine WL_is (X_move rfl rfl) rfl rfl rfl ?_
  refine WL_is (X_lss_t rfl rfl rfl (by omega)) rfl rfl rfl ?_
  (repeat (first | refine WL_nil ?_ | refine Then_normal ?_ | refine W_seq ?_ | refine W_skip ?_ | refine W_block ?_ | refine W_true rfl ?_))
  skip
  refine W_region rfl ?_
  refine WL_is (X_move rfl rfl) rfl rfl rfl ?_
  refine WL_is (X_move rfl rfl) rfl rfl rfl ?_
  refine WL_is (X_fieldAddr rfl rfl rfl (by simp only [Nat.zero_add] <;> rfl)) rfl rfl rfl ?_
  refine WL_is (X_index_arr (sz := 1) rfl rfl rfl rfl rfl (by omega) (by omega) (by simp only [Nat.zero_add, Int.reduceToNat, Nat.mul_one] <;> rfl)) rfl rfl rfl ?_
  refine WL_is (X_load1 rfl rfl (by exact idx3) rfl rfl) rfl rfl rfl ?_
  refine WL_append_nil (enc := encChu) rfl rfl rfl elemC rfl (Src.sl h2) (flatC _) (by omega) (by omega) rfl rfl rfl ?_
  intro y2
  refine WL_updE (UpdE.shapeL 0 rfl) ?_
  rintro _ _ - ⟨rfl, rfl, a2, c2, rfl⟩
  refine WL_is (X_fieldAddr rfl rfl rfl (by simp only [Nat.zero_add] <;> rfl)) rfl rfl rfl ?_
  refine WL_is (X_index_arr (sz := 1) rfl rfl rfl rfl rfl (by omega) (by omega) (by simp only [Nat.zero_add, Int.reduceToNat, Nat.mul_one] <;> rfl)) rfl rfl rfl ?_
  refine WL_store rfl rfl rfl (by exact idx4) rfl rfl rfl rfl rfl rfl rfl rfl rfl ?_
  (repeat (first | refine WL_nil ?_ | refine Then_normal ?_ | refine inBlk_normal ?_))
  skip
  refine W_region rfl ?_
  refine WL_is (X_move rfl rfl) rfl rfl rfl ?_
  refine WL_is (X_addW rfl rfl rfl (by refine wrapL (by simp only [Int.reduceAdd] <;> rfl) ?_; decide)) rfl rfl rfl ?_
  refine WL_is (X_assign rfl rfl) rfl rfl rfl ?_
  (repeat (first | refine WL_nil ?_ | refine WR_succ ?_ | refine Then_normal ?_ | refine W_seq ?_))
  skip
  refine W_region rfl ?_
  refine WL_is (X_move rfl rfl) rfl rfl rfl ?_
  refine WL_is (X_lss_t rfl rfl rfl (by omega)) rfl rfl rfl ?_
  (repeat (first | refine WL_nil ?_ | refine Then_normal ?_ | refine W_seq ?_ | refine W_skip ?_ | refine W_block ?_ | refine W_true rfl ?_))
  skip
  refine W_region rfl ?_
  refine WL_is (X_move rfl rfl) rfl rfl rfl ?_
  refine WL_is (X_move rfl rfl) rfl rfl rfl ?_
  refine WL_is (X_fieldAddr rfl rfl rfl (by simp only [Nat.zero_add] <;> rfl)) rfl rfl rfl ?_
  refine WL_is (X_index_arr (sz := 1) rfl rfl rfl rfl rfl (by omega) (by omega) (by simp only [Nat.zero_add, Int.reduceToNat, Nat.mul_one] <;> rfl)) rfl rfl rfl ?_
  refine WL_is (X_load1 rfl rfl (by exact idx4) rfl rfl) rfl rfl rfl ?_
  refine WL_append_nil (enc := encChu) rfl rfl rfl elemC rfl (Src.sl h3) (flatC _) (by omega) (by omega) rfl rfl rfl ?_
  intro y3
  refine WL_updE (UpdE.shapeL 0 rfl) ?_
  rintro _ _ - ⟨rfl, rfl, a3, c3, rfl⟩
  refine WL_is (X_fieldAddr rfl rfl rfl (by simp only [Nat.zero_add] <;> rfl)) rfl rfl rfl ?_
  refine WL_is (X_index_arr (sz := 1) rfl rfl rfl rfl rfl (by omega) (by omega) (by simp only [Nat.zero_add, Int.reduceToNat, Nat.mul_one] <;> rfl)) rfl rfl rfl ?_
  refine WL_store rfl rfl rfl (by exact idx5) rfl rfl rfl rfl rfl rfl rfl rfl rfl ?_
  (repeat (first | refine WL_nil ?_ | refine Then_normal ?_ | refine inBlk_normal ?_))
  skip
  refine W_region rfl ?_
  refine WL_is (X_move rfl rfl) rfl rfl rfl ?_
  refine WL_is (X_addW rfl rfl rfl (by refine wrapL (by simp only [Int.reduceAdd] <;> rfl) ?_; decide)) rfl rfl rfl ?_
  refine WL_is (X_assign rfl rfl) rfl rfl rfl ?_
  (repeat (first | refine WL_nil ?_ | refine WR_succ ?_ | refine Then_normal ?_ | refine W_seq ?_))
  skip
  refine W_region rfl ?_
  refine WL_is (X_move rfl rfl) rfl rfl rfl ?_
  refine WL_is (X_lss_f rfl rfl rfl (by omega)) rfl rfl rfl ?_
  (repeat (first | refine WL_nil ?_ | refine Then_normal ?_ | refine W_seq ?_ | refine W_exit ?_ | refine Then_exit ?_ | refine inBlk_here ?_ | refine W_false rfl ?_))
  skip
  refine W_region rfl ?_
  refine WL_is (X_loadA rfl rfl (by exact idx5) rfl rfl rfl) rfl rfl rfl ?_
  refine WL_store rfl rfl rfl (by exact idx4) rfl rfl rfl rfl rfl rfl rfl rfl rfl ?_
  (repeat (first | refine WL_nil ?_ | refine Then_normal ?_ | refine W_ret ?_))
  refine Body_vals (.cons (.cellA rfl idx4 rfl rfl rfl) .nil) rfl ?_
  exact UpdE.of (Upd.sub (.cons _ (.cons _ (.cons _ (.cons _ (SubR.none _)))))) ⟨_, _, _, _, _, _, _, _, rfl, rfl⟩
theorem copy_fn (h : PH) (v : Value) (d : Dr) (hv : DrV h v d) (hb : maxR d ≤ 1000000) : Does Try.prog 9 [v] [] h (Ret fun r R' h' => DrV h' r d ∧ R' = []) := by
  have t0 := hv.ten 0 (by omega)
  have t1 := hv.ten 1 (by omega)
  have t2 := hv.ten 2 (by omega)
  have t3 := hv.ten 3 (by omega)
  refine (copyO_fn h v d hv hb).upd ?_
  rintro r R' h' - ⟨a0, c0, a1, c1, a2, c2, a3, c3, rfl, rfl⟩
  refine (UpdE.row (enc := encChu) 0 rfl (lensC t3)).then ?_
  rintro _ U3 N3 ⟨rfl, w3⟩
  simp only [List.eraseIdx_cons_zero]
  refine (UpdE.row (enc := encChu) 0 rfl (lensC t2)).then ?_
  rintro _ U2 N2 ⟨rfl, w2⟩
  simp only [List.eraseIdx_cons_zero]
  refine (UpdE.row (enc := encChu) 0 rfl (lensC t1)).then ?_
  rintro _ U1 N1 ⟨rfl, w1⟩
  simp only [List.eraseIdx_cons_zero]
  refine (UpdE.row (enc := encChu) 0 rfl (lensC t0)).then ?_
  rintro _ U0 N0 ⟨rfl, w0⟩
  simp only [List.eraseIdx_cons_zero]
  exact UpdE.here ⟨⟨_, _, _, _, rfl, w0, w1.mono N0, (w2.mono N1).mono N0, ((w3.mono N2).mono N1).mono N0⟩, rfl⟩
end Go.Proofs.Ytgpanbmjmpondaa
