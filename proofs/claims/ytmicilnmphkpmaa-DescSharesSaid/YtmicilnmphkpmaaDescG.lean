/- Open files: what the document's table does. -/
import Derived.Test.YtmicilnmphkpmaaDescF
namespace Go.Proofs.Ytmicilnmphkpmaa
open Go Go.Par PH
attribute [local irreducible] W WL Does Exec Body Then inBlk RG WR row obj pblk
set_option maxHeartbeats 2000000 in
theorem getR_fn (h : PH) (b : Nat) (s : DS) (fd : Int) (hs : s.Ok) (hb : s.all.length ≤ 1000000) : Does Try.prog 18 [.pointer (some ⟨b, 0, none⟩), .int .i64 fd] [refR b s] h
    (Ret fun r R' _ => r = .tuple #[fileV (s.file fd), .int .i64 (s.err fd)] ∧ R' = [refR b s]) := by
  refine Does_of_W Try.func18 rfl (n := 24) rfl rfl (by simp only [argE, Nat.reduceAdd] <;> rfl) ?_
  refine W_updE (UpdE.ref 0 rfl) ?_
  rintro _ h - ⟨rfl, v, rfl⟩
  have hl8 := hs.len
  (repeat (first | refine W_seq ?_))
  skip
  refine W_region rfl ?_
  (refine WL_alloc rfl rfl rfl rfl rfl rfl ?_; intro b_)
  refine WL_is (X_assign rfl rfl) rfl rfl rfl ?_
  (repeat (first | refine WL_nil ?_ | refine Then_normal ?_ | refine W_seq ?_))
  skip
  refine W_region rfl ?_
  refine WL_is (X_move rfl rfl) rfl rfl rfl ?_
  refine WL_is (X_move rfl rfl) rfl rfl rfl ?_
  refine WL_callR [rblk b v s.fds] _ rfl rfl rfl Try.func25 rfl rfl rfl rfl (perm_front 1 rfl) (isR_fn h b v s.fds fd hs.len) ?_
  rintro r R' h' hl ⟨rfl, rfl⟩
  simp only [List.cons_append, List.nil_append, List.eraseIdx_cons_zero]
  unfold DS.file DS.err
  by_cases h0 : atF s.fds fd = 0
  · simp only [if_pos h0]
    rw [decide_eq_true h0]
    refine WL_is (X_not rfl rfl) rfl rfl rfl ?_
    (repeat (first | refine WL_nil ?_ | refine Then_normal ?_ | refine W_seq ?_ | refine W_true rfl ?_))
    skip
    refine W_region rfl ?_
    refine WL_is (X_build rfl rfl rfl) rfl rfl rfl ?_
    refine WL_store rfl rfl rfl (by exact idx1) rfl rfl rfl rfl rfl rfl rfl rfl rfl ?_
    refine WL_is (X_assign rfl rfl) rfl rfl rfl ?_
    (repeat (first | refine WL_nil ?_ | refine Then_normal ?_ | refine W_ret ?_ | refine Then_ret ?_))
    refine Body_vals (.cons (.cellA rfl idx1 rfl rfl rfl) (.cons (.tmp rfl) .nil)) rfl ?_
    refine (UpdE.sub (A := fun R' _ => R' = [rblk b v s.fds, _]) (SubR.cons _ (SubR.skip _ (SubR.refl _))) rfl).then ?_
    rintro _ h'' - rfl
    exact UpdE.of Upd.ref ⟨rfl, rfl⟩
  · simp only [if_neg h0]
    rw [decide_eq_false h0]
    obtain ⟨k, hk, rfl, hk8, e2⟩ := atF_mem h0
    have hv := rcell_at (v := v) hk
    obtain ⟨j, hj⟩ : ∃ j, s.fds[k] = j + 1 := ⟨s.fds[k] - 1, by omega⟩
    have hjl : j < s.all.length := by have := hs.le _ (List.getElem_mem hk); omega
    rw [hj] at hv
    rw [e2, hj]
    simp only [Nat.add_sub_cancel, List.getElem?_eq_getElem hjl, Option.getD_some]
    refine WL_updE (UpdE.shapeL 2 rfl) ?_
    rintro _ h - ⟨rfl, rfl, a, cap, rfl⟩
    refine WL_updE (UpdE.shapePos 2 rfl (by omega)) ?_
    rintro _ h - ⟨rfl, rfl, rb, rfl⟩
    unfold rblk
    refine WL_is (X_not rfl rfl) rfl rfl rfl ?_
    (repeat (first | refine WL_nil ?_ | refine Then_normal ?_ | refine W_seq ?_ | refine W_skip ?_ | refine W_false rfl ?_))
    skip
    refine W_draw0 11 rfl rfl rfl rfl ?_
    refine RG_val rfl rfl (fun _ => rfl) (fun _ => X_move rfl rfl) ?_
    refine RG_val rfl rfl (fun _ => rfl) (fun _ => X_nilCheck rfl rfl) ?_
    refine RG_val rfl rfl (fun _ => rfl) (fun _ => X_fieldAddr rfl rfl rfl (by simp only [Nat.zero_add] <;> rfl)) ?_
    refine RG_val rfl rfl (fun _ => rfl) (fun _ => X_load1 rfl rfl (by exact idx0) rfl rfl) ?_
    refine RG_val rfl rfl (fun _ => rfl) (fun _ => X_move rfl rfl) ?_
    refine RG_val rfl rfl (fun _ => rfl) (fun _ => X_move rfl rfl) ?_
    refine RG_val rfl rfl (fun _ => rfl) (fun _ => X_nilCheck rfl rfl) ?_
    refine RG_val rfl rfl (fun _ => rfl) (fun _ => X_fieldAddr rfl rfl rfl (by simp only [Nat.zero_add] <;> rfl)) ?_
    refine RG_val rfl rfl (fun _ => rfl) (fun _ => X_index_arr (sz := 1) rfl rfl rfl rfl rfl (by omega) (by omega) (by simp only [Int.toNat_natCast, Nat.mul_one] <;> rfl)) ?_
    refine RG_val rfl rfl (fun _ => rfl) (fun _ => X_load1 rfl rfl (by exact idx0) rfl (by assumption)) ?_
    refine RG_val rfl rfl (fun _ => rfl) (fun _ => X_subW (c := (j : Int)) rfl rfl rfl (by rw [wrap_i64_in] <;> omega)) ?_
    refine RG_nil ?_
    refine RG_endv rfl (fun vs => by simp only [endE, List.cons_append, List.nil_append] <;> rfl) (fun vs => rfl) ?_
    refine WL_is (X_index_row rfl rfl (by exact idx2) rfl rfl rfl (by omega)) rfl rfl rfl ?_
    refine WL_is (X_loadA_spot rfl rfl (by exact idx2) (by rfl) rfl rfl rfl (by omega) rfl) rfl rfl rfl ?_
    refine WL_store rfl rfl rfl (by exact idx1) rfl rfl rfl rfl rfl rfl rfl rfl rfl ?_
    refine WL_is (X_assign rfl rfl) rfl rfl rfl ?_
    (repeat (first | refine WL_nil ?_ | refine Then_normal ?_ | refine W_ret ?_))
    refine Body_vals (.cons (.cellA rfl idx1 rfl rfl rfl) (.cons (.tmp rfl) .nil)) rfl ?_
    refine (UpdE.sub (A := fun R' _ => R' = [rblk b _ s.fds, _]) (SubR.cons _ (SubR.skip _ (SubR.refl _))) rfl).then ?_
    rintro _ h'' - rfl
    exact UpdE.of Upd.ref ⟨rfl, rfl⟩
set_option maxHeartbeats 2000000 in
theorem moveR_fn (h : PH) (b : Nat) (s : DS) (fd off : Int) (hs : s.Ok) (hb : s.all.length ≤ 1000000) : Does Try.prog 12 [.pointer (some ⟨b, 0, none⟩), .int .i64 fd, .int .i64 off] [refR b s] h
    (Ret fun r R' _ => r = .int .i64 (s.moveE fd off) ∧ R' = [refR b (s.move fd off)]) := by
  refine Does_of_W Try.func12 rfl (n := 27) rfl rfl (by simp only [argE, Nat.reduceAdd] <;> rfl) ?_
  refine W_updE (UpdE.ref 0 rfl) ?_
  rintro _ h - ⟨rfl, v, rfl⟩
  have hl8 := hs.len
  (repeat (first | refine W_seq ?_))
  skip
  refine W_region rfl ?_
  refine WL_is (X_assign rfl rfl) rfl rfl rfl ?_
  (repeat (first | refine WL_nil ?_ | refine Then_normal ?_ | refine W_seq ?_))
  skip
  refine W_region rfl ?_
  refine WL_is (X_move rfl rfl) rfl rfl rfl ?_
  refine WL_is (X_move rfl rfl) rfl rfl rfl ?_
  refine WL_callR [rblk b v s.fds] _ rfl rfl rfl Try.func25 rfl rfl rfl rfl (.refl _) (isR_fn h b v s.fds fd hs.len) ?_
  rintro r R' h' hl ⟨rfl, rfl⟩
  simp only [List.cons_append, List.nil_append, List.eraseIdx_cons_zero]
  unfold DS.moveE DS.move DS.file
  by_cases h0 : atF s.fds fd = 0
  · rw [decide_eq_true h0]
    simp only [h0, true_or, if_true]
    refine WL_is (X_not rfl rfl) rfl rfl rfl ?_
    (repeat (first | refine WL_nil ?_ | refine Then_normal ?_ | refine W_seq ?_ | refine W_true rfl ?_))
    skip
    refine W_region rfl ?_
    refine WL_is (X_assign rfl rfl) rfl rfl rfl ?_
    (repeat (first | refine WL_nil ?_ | refine Then_normal ?_ | refine W_ret ?_ | refine Then_ret ?_))
    refine Body_vals (.cons (.tmp rfl) .nil) rfl ?_
    exact UpdE.of Upd.ref ⟨rfl, rfl⟩
  · rw [decide_eq_false h0]
    simp only [if_neg h0]
    by_cases h1 : off < 0
    · simp only [if_pos h1, if_pos (Or.inr h1 : atF s.fds fd = 0 ∨ off < 0)]
      refine WL_is (X_not rfl rfl) rfl rfl rfl ?_
      (repeat (first | refine WL_nil ?_ | refine Then_normal ?_ | refine W_seq ?_ | refine W_skip ?_ | refine W_false rfl ?_))
      skip
      refine W_region rfl ?_
      refine WL_is (X_move rfl rfl) rfl rfl rfl ?_
      refine WL_is (X_lss_t rfl rfl rfl (by omega)) rfl rfl rfl ?_
      (repeat (first | refine WL_nil ?_ | refine Then_normal ?_ | refine W_seq ?_ | refine W_true rfl ?_))
      skip
      refine W_region rfl ?_
      refine WL_is (X_assign rfl rfl) rfl rfl rfl ?_
      (repeat (first | refine WL_nil ?_ | refine Then_normal ?_ | refine W_ret ?_ | refine Then_ret ?_))
      refine Body_vals (.cons (.tmp rfl) .nil) rfl ?_
      exact UpdE.of Upd.ref ⟨rfl, rfl⟩
    · simp only [if_neg h1, if_neg (not_or.2 ⟨h0, h1⟩)]
      obtain ⟨k, hk, rfl, hk8, e2⟩ := atF_mem h0
      have hv := rcell_at (v := v) hk
      obtain ⟨j, hj⟩ : ∃ j, s.fds[k] = j + 1 := ⟨s.fds[k] - 1, by omega⟩
      have hjl : j < s.all.length := by have := hs.le _ (List.getElem_mem hk); omega
      rw [hj] at hv
      rw [e2, hj]
      simp only [Nat.add_sub_cancel, List.getElem?_eq_getElem hjl, Option.getD_some]
      refine WL_updE (UpdE.shapeL 1 rfl) ?_
      rintro _ h - ⟨rfl, rfl, a, cap, rfl⟩
      refine WL_updE (UpdE.shapePos 1 rfl (by omega)) ?_
      rintro _ h - ⟨rfl, rfl, rb, rfl⟩
      unfold rblk
      refine WL_is (X_not rfl rfl) rfl rfl rfl ?_
      (repeat (first | refine WL_nil ?_ | refine Then_normal ?_ | refine W_seq ?_ | refine W_skip ?_ | refine W_false rfl ?_))
      skip
      refine W_region rfl ?_
      refine WL_is (X_move rfl rfl) rfl rfl rfl ?_
      refine WL_is (X_lss_f rfl rfl rfl (by omega)) rfl rfl rfl ?_
      (repeat (first | refine WL_nil ?_ | refine Then_normal ?_ | refine W_seq ?_ | refine W_skip ?_ | refine W_false rfl ?_))
      skip
      refine W_draw0 12 rfl rfl rfl rfl ?_
      refine RG_val rfl rfl (fun _ => rfl) (fun _ => X_move rfl rfl) ?_
      refine RG_val rfl rfl (fun _ => rfl) (fun _ => X_nilCheck rfl rfl) ?_
      refine RG_val rfl rfl (fun _ => rfl) (fun _ => X_fieldAddr rfl rfl rfl (by simp only [Nat.zero_add] <;> rfl)) ?_
      refine RG_val rfl rfl (fun _ => rfl) (fun _ => X_load1 rfl rfl (by exact idx0) rfl rfl) ?_
      refine RG_val rfl rfl (fun _ => rfl) (fun _ => X_move rfl rfl) ?_
      refine RG_val rfl rfl (fun _ => rfl) (fun _ => X_move rfl rfl) ?_
      refine RG_val rfl rfl (fun _ => rfl) (fun _ => X_nilCheck rfl rfl) ?_
      refine RG_val rfl rfl (fun _ => rfl) (fun _ => X_fieldAddr rfl rfl rfl (by simp only [Nat.zero_add] <;> rfl)) ?_
      refine RG_val rfl rfl (fun _ => rfl) (fun _ => X_index_arr (sz := 1) rfl rfl rfl rfl rfl (by omega) (by omega) (by simp only [Int.toNat_natCast, Nat.mul_one] <;> rfl)) ?_
      refine RG_val rfl rfl (fun _ => rfl) (fun _ => X_load1 rfl rfl (by exact idx0) rfl (by assumption)) ?_
      refine RG_val rfl rfl (fun _ => rfl) (fun _ => X_subW (c := (j : Int)) rfl rfl rfl (by rw [wrap_i64_in] <;> omega)) ?_
      refine RG_val rfl rfl (fun _ => rfl) (fun _ => X_move rfl rfl) ?_
      refine RG_nil ?_
      refine RG_endv rfl (fun vs => by simp only [endE, List.cons_append, List.nil_append] <;> rfl) (fun vs => rfl) ?_
      refine WL_is (X_index_row rfl rfl (by exact idx1) rfl rfl rfl (by omega)) rfl rfl rfl ?_
      refine WL_is (X_fieldAddr_spot rfl rfl rfl (by simp only [Nat.zero_add] <;> rfl)) rfl rfl rfl ?_
      refine WL_store_spot rfl rfl rfl (by exact idx1) (by rfl) rfl rfl rfl rfl rfl (by omega) rfl rfl rfl rfl ?_
      (repeat (first | refine WL_nil ?_ | refine Then_normal ?_ | refine W_seq ?_))
      skip
      refine W_region rfl ?_
      refine WL_is (X_assign rfl rfl) rfl rfl rfl ?_
      (repeat (first | refine WL_nil ?_ | refine Then_normal ?_ | refine W_ret ?_))
      refine Body_vals (.cons (.tmp rfl) .nil) rfl ?_
      exact UpdE.of (Upd.ref (s := ⟨s.all.set j { s.all[j] with off := off }, s.fds⟩)) ⟨rfl, rfl⟩
set_option maxHeartbeats 2000000 in
theorem dupR_fn (h : PH) (b : Nat) (s : DS) (fd : Int) (hs : s.Ok) : Does Try.prog 14 [.pointer (some ⟨b, 0, none⟩), .int .i64 fd] [refR b s] h
    (Ret fun r R' _ => r = .tuple #[.int .i64 (s.dupN fd), .int .i64 (s.dupE fd)] ∧ R' = [refR b (s.dup fd)]) := by
  refine Does_of_W Try.func14 rfl (n := 27) rfl rfl (by simp only [argE, Nat.reduceAdd] <;> rfl) ?_
  refine W_updE (UpdE.ref 0 rfl) ?_
  rintro _ h - ⟨rfl, v, rfl⟩
  have hl8 := hs.len
  (repeat (first | refine W_seq ?_))
  skip
  refine W_region rfl ?_
  refine WL_is (X_assign rfl rfl) rfl rfl rfl ?_
  refine WL_is (X_assign rfl rfl) rfl rfl rfl ?_
  (repeat (first | refine WL_nil ?_ | refine Then_normal ?_ | refine W_seq ?_))
  skip
  refine W_region rfl ?_
  refine WL_is (X_move rfl rfl) rfl rfl rfl ?_
  refine WL_is (X_move rfl rfl) rfl rfl rfl ?_
  refine WL_callR [rblk b v s.fds] _ rfl rfl rfl Try.func25 rfl rfl rfl rfl (.refl _) (isR_fn h b v s.fds fd hs.len) ?_
  rintro r R' h' hl ⟨rfl, rfl⟩
  simp only [List.cons_append, List.nil_append, List.eraseIdx_cons_zero]
  unfold DS.dupE DS.dup DS.dupN
  by_cases h0 : atF s.fds fd = 0
  · rw [decide_eq_true h0]
    simp only [if_pos h0, if_pos (Or.inl h0 : atF s.fds fd = 0 ∨ ¬ least s.fds < 8)]
    refine WL_is (X_not rfl rfl) rfl rfl rfl ?_
    (repeat (first | refine WL_nil ?_ | refine Then_normal ?_ | refine W_seq ?_ | refine W_true rfl ?_))
    skip
    refine W_region rfl ?_
    refine WL_is (X_assign rfl rfl) rfl rfl rfl ?_
    refine WL_is (X_assign rfl rfl) rfl rfl rfl ?_
    (repeat (first | refine WL_nil ?_ | refine Then_normal ?_ | refine W_ret ?_ | refine Then_ret ?_))
    refine Body_vals (.cons (.tmp rfl) (.cons (.tmp rfl) .nil)) rfl ?_
    exact UpdE.of Upd.ref ⟨rfl, rfl⟩
  · rw [decide_eq_false h0]
    simp only [if_neg h0]
    refine WL_is (X_not rfl rfl) rfl rfl rfl ?_
    (repeat (first | refine WL_nil ?_ | refine Then_normal ?_ | refine W_seq ?_ | refine W_skip ?_ | refine W_false rfl ?_))
    skip
    refine W_region rfl ?_
    refine WL_is (X_move rfl rfl) rfl rfl rfl ?_
    refine WL_callR [rblk b v s.fds] _ rfl rfl rfl Try.func23 rfl rfl rfl rfl (.refl _) (freeR_fn h' b v s.fds hs.len) ?_
    rintro r R' h2 hl2 ⟨rfl, rfl⟩
    simp only [List.cons_append, List.nil_append]
    by_cases h1 : least s.fds < 8
    · simp only [if_pos h1, if_neg (not_or.2 ⟨h0, not_not_intro h1⟩)]
      obtain ⟨k, hk, rfl, hk8, e2⟩ := atF_mem h0
      have hv := rcell_at (v := v) hk
      have hcs := rcell_set (v := v) (fds := s.fds) (least s.fds) s.fds[k]
      rw [e2]
      unfold rblk
      refine WL_is (X_assign rfl rfl) rfl rfl rfl ?_
      (repeat (first | refine WL_nil ?_ | refine Then_normal ?_ | refine W_seq ?_))
      skip
      refine W_region rfl ?_
      refine WL_is (X_move rfl rfl) rfl rfl rfl ?_
      refine WL_is (X_lss_f rfl rfl rfl (by omega)) rfl rfl rfl ?_
      (repeat (first | refine WL_nil ?_ | refine Then_normal ?_ | refine W_seq ?_ | refine W_skip ?_ | refine W_false rfl ?_))
      skip
      refine W_draw0 10 rfl rfl rfl rfl ?_
      refine RG_val rfl rfl (fun _ => rfl) (fun _ => X_move rfl rfl) ?_
      refine RG_val rfl rfl (fun _ => rfl) (fun _ => X_move rfl rfl) ?_
      refine RG_val rfl rfl (fun _ => rfl) (fun _ => X_move rfl rfl) ?_
      refine RG_val rfl rfl (fun _ => rfl) (fun _ => X_move rfl rfl) ?_
      refine RG_val rfl rfl (fun _ => rfl) (fun _ => X_nilCheck rfl rfl) ?_
      refine RG_val rfl rfl (fun _ => rfl) (fun _ => X_fieldAddr rfl rfl rfl (by simp only [Nat.zero_add] <;> rfl)) ?_
      refine RG_val rfl rfl (fun _ => rfl) (fun _ => X_index_arr (sz := 1) rfl rfl rfl rfl rfl (by omega) (by omega) (by simp only [Int.toNat_natCast, Nat.mul_one] <;> rfl)) ?_
      refine RG_val rfl rfl (fun _ => rfl) (fun _ => X_load1 rfl rfl (by exact idx0) rfl (by assumption)) ?_
      refine RG_val rfl rfl (fun _ => rfl) (fun _ => X_nilCheck rfl rfl) ?_
      refine RG_val rfl rfl (fun _ => rfl) (fun _ => X_fieldAddr rfl rfl rfl (by simp only [Nat.zero_add] <;> rfl)) ?_
      refine RG_nil ?_
      refine RG_endv rfl (fun vs => by simp only [endE, List.cons_append, List.nil_append] <;> rfl) (fun vs => rfl) ?_
      refine WL_is (X_index_arr (sz := 1) rfl rfl rfl rfl rfl (by omega) (by omega) (by simp only [Int.toNat_natCast, Nat.mul_one] <;> rfl)) rfl rfl rfl ?_
      refine WL_storeV (sz := 1) rfl rfl rfl (by exact idx0) rfl (by simp only [vc] <;> rfl) rfl rfl (by (simp only [List.length_map, List.length_cons]; omega)) rfl rfl (by simp only [wr] <;> rfl) (by simp only [List.set_cons_zero] <;> rfl) ?_
      (repeat (first | refine WL_nil ?_ | refine Then_normal ?_ | refine W_seq ?_))
      skip
      refine W_region rfl ?_
      refine WL_is (X_move rfl rfl) rfl rfl rfl ?_
      refine WL_is (X_assign rfl rfl) rfl rfl rfl ?_
      refine WL_is (X_assign rfl rfl) rfl rfl rfl ?_
      (repeat (first | refine WL_nil ?_ | refine Then_normal ?_ | refine W_ret ?_))
      refine Body_vals (.cons (.tmp rfl) (.cons (.tmp rfl) .nil)) rfl ?_
      rw [hcs]
      exact UpdE.of (Upd.ref (s := ⟨s.all, s.fds.set (least s.fds) s.fds[k]⟩)) ⟨rfl, rfl⟩
    · simp only [if_neg h1, if_pos (Or.inr h1 : atF s.fds fd = 0 ∨ ¬ least s.fds < 8)]
      refine WL_is (X_assign rfl rfl) rfl rfl rfl ?_
      (repeat (first | refine WL_nil ?_ | refine Then_normal ?_ | refine W_seq ?_))
      skip
      refine W_region rfl ?_
      refine WL_is (X_move rfl rfl) rfl rfl rfl ?_
      refine WL_is (X_lss_t rfl rfl rfl (by omega)) rfl rfl rfl ?_
      (repeat (first | refine WL_nil ?_ | refine Then_normal ?_ | refine W_seq ?_ | refine W_true rfl ?_))
      skip
      refine W_region rfl ?_
      refine WL_is (X_assign rfl rfl) rfl rfl rfl ?_
      refine WL_is (X_assign rfl rfl) rfl rfl rfl ?_
      (repeat (first | refine WL_nil ?_ | refine Then_normal ?_ | refine W_ret ?_ | refine Then_ret ?_))
      refine Body_vals (.cons (.tmp rfl) (.cons (.tmp rfl) .nil)) rfl ?_
      exact UpdE.of Upd.ref ⟨rfl, rfl⟩
theorem elemF : ElemT Try.prog 27 33 6 32 := ElemT.mk' rfl rfl
theorem lenF (l : List FileD) : ∀ x ∈ l, (encF x).length = 6 := fun _ _ => rfl
theorem flatF (l : List FileD) : ∀ x ∈ l, (encF x).all flat = true := fun _ _ => rfl
set_option maxHeartbeats 2000000 in
theorem openR_fn (h : PH) (b : Nat) (s : DS) (f : FileD) (hs : s.Ok) (hb : s.all.length ≤ 1000000) : Does Try.prog 10 [.pointer (some ⟨b, 0, none⟩), fileV f] [refR b s] h
    (Ret fun r R' _ => r = .tuple #[.int .i64 s.openN, .int .i64 s.openE] ∧ R' = [refR b (s.open f)]) := by
  unfold fileV
  refine Does_of_W Try.func10 rfl (n := 32) rfl rfl (by simp only [argE, Nat.reduceAdd] <;> rfl) ?_
  refine W_updE (UpdE.ref 0 rfl) ?_
  rintro _ h - ⟨rfl, v, rfl⟩
  have hl8 := hs.len
  (repeat (first | refine W_seq ?_))
  skip
  refine W_region rfl ?_
  (refine WL_box rfl rfl rfl rfl rfl rfl ?_; intro b_)
  refine WL_is (X_assign rfl rfl) rfl rfl rfl ?_
  refine WL_is (X_assign rfl rfl) rfl rfl rfl ?_
  (repeat (first | refine WL_nil ?_ | refine Then_normal ?_ | refine W_seq ?_))
  skip
  refine W_region rfl ?_
  refine WL_is (X_move rfl rfl) rfl rfl rfl ?_
  refine WL_callR [rblk b v s.fds] _ rfl rfl rfl Try.func23 rfl rfl rfl rfl (perm_front 1 rfl) (freeR_fn h b v s.fds hs.len) ?_
  rintro r R' h2 hl2 ⟨rfl, rfl⟩
  simp only [List.cons_append, List.nil_append, List.eraseIdx_cons_zero]
  unfold DS.openN DS.openE DS.open
  by_cases h1 : least s.fds < 8
  · simp only [if_pos h1]
    have hcs := fun w => rcell_set (v := w) (fds := s.fds) (least s.fds) (s.all ++ [f]).length
    unfold rblk
    refine WL_is (X_assign rfl rfl) rfl rfl rfl ?_
    (repeat (first | refine WL_nil ?_ | refine Then_normal ?_ | refine W_seq ?_))
    skip
    refine W_region rfl ?_
    refine WL_is (X_move rfl rfl) rfl rfl rfl ?_
    refine WL_is (X_lss_f rfl rfl rfl (by omega)) rfl rfl rfl ?_
    (repeat (first | refine WL_nil ?_ | refine Then_normal ?_ | refine W_seq ?_ | refine W_skip ?_ | refine W_false rfl ?_))
    skip
    refine W_draw 8 _ [] [blk b (v :: s.fds.map intv) 30, blk b_ (encF f) 33] rfl rfl rfl (SubE.refl _) rfl ?_
    refine RG_val rfl rfl (fun _ => rfl) (fun _ => X_move rfl rfl) ?_
    refine RG_val rfl rfl (fun _ => rfl) (fun _ => X_move rfl rfl) ?_
    refine RG_val rfl rfl (fun _ => rfl) (fun _ => X_nilCheck rfl rfl) ?_
    refine RG_val rfl rfl (fun _ => rfl) (fun _ => X_fieldAddr rfl rfl rfl (by simp only [Nat.zero_add] <;> rfl)) ?_
    refine RG_val rfl rfl (fun _ => rfl) (fun _ => X_load1 rfl rfl (by exact idx0) rfl rfl) ?_
    refine RG_val rfl rfl (fun _ => rfl) (fun _ => X_loadA rfl rfl (by exact idx1) rfl rfl rfl) ?_
    refine RG_buildSl (enc := encF) [f] (lenF _) rfl (fun _ => rfl) rfl rfl rfl rfl rfl rfl rfl rfl rfl rfl rfl rfl (fun _ => rfl) ?_
    refine RG_append (enc := encF) (L := s.all) (L' := [f]) rfl (fun _ => rfl) (fun _ => rfl) elemF rfl (fun vs h' hl hf => hf.1) (flatF _) (by simp only [List.length_cons, List.length_nil]; omega) (by simp only [List.length_cons, List.length_nil]; omega) rfl rfl (fun _ => rfl) ?_
    refine RG_nil ?_
    refine RG_endC ((List.Perm.trans (perm_front 2 rfl) (.refl _))) (fun vs => by simp only [endE, List.cons_append, List.nil_append] <;> rfl) (fun vs => by simp only [endR, List.cons_append, List.nil_append, List.append_nil] <;> rfl) (fun vs h' hf => hf) ?_
    rintro vs h3 hl3 -
    simp only [Nat.zero_add, Nat.reduceAdd]
    generalize vs 7 = v'
    refine WL_updE (UpdE.shapeL 0 rfl) ?_
    rintro _ h3 - ⟨rfl, rfl, a, cap, rfl⟩
    refine WL_is (X_nilCheck rfl rfl) rfl rfl rfl ?_
    refine WL_is (X_fieldAddr rfl rfl rfl (by simp only [Nat.zero_add] <;> rfl)) rfl rfl rfl ?_
    refine WL_store rfl rfl rfl (by exact idx1) rfl rfl rfl rfl rfl rfl rfl rfl rfl ?_
    (repeat (first | refine WL_nil ?_ | refine Then_normal ?_ | refine W_seq ?_))
    skip
    refine W_draw0 9 rfl rfl rfl rfl ?_
    refine RG_val rfl rfl (fun _ => rfl) (fun _ => X_move rfl rfl) ?_
    refine RG_val rfl rfl (fun _ => rfl) (fun _ => X_move rfl rfl) ?_
    refine RG_val rfl rfl (fun _ => rfl) (fun _ => X_move rfl rfl) ?_
    refine RG_val rfl rfl (fun _ => rfl) (fun _ => X_nilCheck rfl rfl) ?_
    refine RG_val rfl rfl (fun _ => rfl) (fun _ => X_fieldAddr rfl rfl rfl (by simp only [Nat.zero_add] <;> rfl)) ?_
    refine RG_val rfl rfl (fun _ => rfl) (fun _ => X_load1 rfl rfl (by exact idx1) rfl rfl) ?_
    refine RG_val rfl rfl (fun _ => rfl) (fun _ => X_len rfl rfl rfl) ?_
    refine RG_val rfl rfl (fun _ => rfl) (fun _ => X_nilCheck rfl rfl) ?_
    refine RG_val rfl rfl (fun _ => rfl) (fun _ => X_fieldAddr rfl rfl rfl (by simp only [Nat.zero_add] <;> rfl)) ?_
    refine RG_nil ?_
    refine RG_endv rfl (fun vs => by simp only [endE, List.cons_append, List.nil_append] <;> rfl) (fun vs => rfl) ?_
    refine WL_is (X_index_arr (sz := 1) rfl rfl rfl rfl rfl (by omega) (by omega) (by simp only [Int.toNat_natCast, Nat.mul_one] <;> rfl)) rfl rfl rfl ?_
    refine WL_storeV (sz := 1) rfl rfl rfl (by exact idx1) rfl (by simp only [vc] <;> rfl) rfl rfl (by (simp only [List.length_map, List.length_cons]; omega)) rfl rfl (by simp only [wr] <;> rfl) (by simp only [List.set_cons_zero, List.set_cons_succ] <;> rfl) ?_
    (repeat (first | refine WL_nil ?_ | refine Then_normal ?_ | refine W_seq ?_))
    skip
    refine W_region rfl ?_
    refine WL_is (X_move rfl rfl) rfl rfl rfl ?_
    refine WL_is (X_assign rfl rfl) rfl rfl rfl ?_
    refine WL_is (X_assign rfl rfl) rfl rfl rfl ?_
    (repeat (first | refine WL_nil ?_ | refine Then_normal ?_ | refine W_ret ?_))
    refine Body_vals (.cons (.tmp rfl) (.cons (.tmp rfl) .nil)) rfl ?_
    rw [hcs]
    refine (UpdE.sub (A := fun R' _ => R' = [rblk b (.slice a (s.all ++ [f]).length cap) (s.fds.set (least s.fds) (s.all ++ [f]).length), rowL encF (.slice a (s.all ++ [f]).length cap) 33 6 (s.all ++ [f])]) ((SubR.of_perm (.swap _ _ _)).trans (SubR.cons _ (SubR.cons _ (SubR.none _)))) rfl).then ?_
    rintro _ h'' - rfl
    refine UpdE.of (Upd.ref (s := ⟨s.all ++ [f], s.fds.set (least s.fds) (s.all ++ [f]).length⟩)) ⟨rfl, ?_⟩
    rw [List.length_append]; rfl
  · simp only [if_neg h1]
    refine WL_is (X_assign rfl rfl) rfl rfl rfl ?_
    (repeat (first | refine WL_nil ?_ | refine Then_normal ?_ | refine W_seq ?_))
    skip
    refine W_region rfl ?_
    refine WL_is (X_move rfl rfl) rfl rfl rfl ?_
    refine WL_is (X_lss_t rfl rfl rfl (by omega)) rfl rfl rfl ?_
    (repeat (first | refine WL_nil ?_ | refine Then_normal ?_ | refine W_seq ?_ | refine W_true rfl ?_))
    skip
    refine W_region rfl ?_
    refine WL_is (X_assign rfl rfl) rfl rfl rfl ?_
    refine WL_is (X_assign rfl rfl) rfl rfl rfl ?_
    (repeat (first | refine WL_nil ?_ | refine Then_normal ?_ | refine W_ret ?_ | refine Then_ret ?_))
    refine Body_vals (.cons (.tmp rfl) (.cons (.tmp rfl) .nil)) rfl ?_
    refine (UpdE.sub (A := fun R' _ => R' = [rblk b v s.fds, _]) (SubR.cons _ (SubR.skip _ (SubR.refl _))) rfl).then ?_
    rintro _ h'' - rfl
    exact UpdE.of Upd.ref ⟨rfl, rfl⟩
set_option maxHeartbeats 2000000 in
theorem listR_fn (h : PH) (b : Nat) (s : DS) (hs : s.Ok) : Does Try.prog 21 [.pointer (some ⟨b, 0, none⟩)] [refR b s] h
    (Ret fun r R' h' => Sl encI 1 h' r (lst s.fds 8) ∧ R' = [refR b s]) := by
  refine Does_of_W Try.func21 rfl (n := 21) rfl rfl (by simp only [argE] <;> rfl) ?_
  refine W_updE (UpdE.ref 0 rfl) ?_
  rintro _ h - ⟨rfl, w, rfl⟩
  have hl8 := hs.len
  unfold rblk
  (repeat (first | refine W_seq ?_))
  skip
  refine W_region rfl ?_
  refine WL_is (X_assign rfl rfl) rfl rfl rfl ?_
  (repeat (first | refine WL_nil ?_ | refine Then_normal ?_ | refine W_seq ?_))
  skip
  refine W_region rfl ?_
  refine WL_is (X_assign rfl rfl) rfl rfl rfl ?_
  (repeat (first | refine WL_nil ?_ | refine Then_normal ?_ | refine W_seq ?_))
  skip
  refine W_region rfl ?_
  refine WL_is (X_assign rfl rfl) rfl rfl rfl ?_
  (repeat (first | refine WL_nil ?_ | refine Then_normal ?_ | refine W_block ?_))
  refine W_upd (Upd.nilrow (e := 3) (sz := 1)) ?_
  refine W_loop (X := Nat × Value) (L := fun k => ⟨[(4, .int .i64 (k.1 : Int)), (3, k.2), (0, .pointer (some ⟨b, 0, none⟩))], [], [rowL encI k.2 3 1 (lst s.fds k.1), blk b (w :: s.fds.map intv) 30, rowL encF w 33 6 s.all], h⟩) (p := fun k => k.1 ≤ 8) (μ := fun k => 8 - k.1) (0, .slice none 0 0) ⟨(by repeat (first | exact SubE_nil | refine SubE_cons rfl ?_)), rfl, SubR.refl _, rfl⟩ (by simp) ?_
  rintro ⟨k, v⟩ hk
  simp only at hk
  by_cases hlt : k < 8
  · have hk' : k < s.fds.length := by omega
    have hv := rcell_at (v := w) hk'
    have hlk := lst_le s.fds k
    by_cases h0 : s.fds[k] = 0
    · have hl : lst s.fds (k + 1) = lst s.fds k := by simp [lst, hk', h0]
      rw [h0] at hv
      (repeat (first | refine W_seq ?_))
      refine W_region rfl ?_
      refine WL_is (X_move rfl rfl) rfl rfl rfl ?_
      refine WL_is (X_lss_t rfl rfl rfl (by omega)) rfl rfl rfl ?_
      (repeat (first | refine WL_nil ?_ | refine Then_normal ?_ | refine W_seq ?_ | refine W_skip ?_ | refine W_block ?_ | refine W_true rfl ?_))
      skip
      refine W_region rfl ?_
      refine WL_is (X_move rfl rfl) rfl rfl rfl ?_
      refine WL_is (X_move rfl rfl) rfl rfl rfl ?_
      refine WL_is (X_nilCheck rfl rfl) rfl rfl rfl ?_
      refine WL_is (X_fieldAddr rfl rfl rfl (by simp only [Nat.zero_add] <;> rfl)) rfl rfl rfl ?_
      refine WL_is (X_index_arr (sz := 1) rfl rfl rfl rfl rfl (by omega) (by omega) (by simp only [Int.toNat_natCast, Nat.mul_one] <;> rfl)) rfl rfl rfl ?_
      refine WL_is (X_load1 rfl rfl (by exact idx1) rfl (by assumption)) rfl rfl rfl ?_
      refine WL_is (X_gtr_f rfl rfl rfl (by omega)) rfl rfl rfl ?_
      (repeat (first | refine WL_nil ?_ | refine Then_normal ?_ | refine W_skip ?_ | refine inBlk_normal ?_ | refine W_false rfl ?_))
      skip
      refine W_region rfl ?_
      refine WL_is (X_move rfl rfl) rfl rfl rfl ?_
      refine WL_is (X_addW rfl rfl rfl (by exact wrap_i64_in (by omega) (by omega))) rfl rfl rfl ?_
      refine WL_is (X_assign rfl rfl) rfl rfl rfl ?_
      (repeat (first | refine WL_nil ?_ | refine Then_normal ?_))
      refine ⟨(k + 1, v), ⟨(by repeat (first | exact SubE_nil | refine SubE_cons rfl ?_)), rfl, SubR.of_perm (by rw [hl]), rfl⟩, by simp only; omega, by simp only; omega⟩
    · have hl : lst s.fds (k + 1) = lst s.fds k ++ [(k : Int)] := by simp [lst, hk', h0]
      (repeat (first | refine W_seq ?_))
      refine W_region rfl ?_
      refine WL_is (X_move rfl rfl) rfl rfl rfl ?_
      refine WL_is (X_lss_t rfl rfl rfl (by omega)) rfl rfl rfl ?_
      (repeat (first | refine WL_nil ?_ | refine Then_normal ?_ | refine W_seq ?_ | refine W_skip ?_ | refine W_block ?_ | refine W_true rfl ?_))
      skip
      refine W_region rfl ?_
      refine WL_is (X_move rfl rfl) rfl rfl rfl ?_
      refine WL_is (X_move rfl rfl) rfl rfl rfl ?_
      refine WL_is (X_nilCheck rfl rfl) rfl rfl rfl ?_
      refine WL_is (X_fieldAddr rfl rfl rfl (by simp only [Nat.zero_add] <;> rfl)) rfl rfl rfl ?_
      refine WL_is (X_index_arr (sz := 1) rfl rfl rfl rfl rfl (by omega) (by omega) (by simp only [Int.toNat_natCast, Nat.mul_one] <;> rfl)) rfl rfl rfl ?_
      refine WL_is (X_load1 rfl rfl (by exact idx1) rfl (by assumption)) rfl rfl rfl ?_
      refine WL_is (X_gtr_t rfl rfl rfl (by omega)) rfl rfl rfl ?_
      (repeat (first | refine WL_nil ?_ | refine Then_normal ?_ | refine W_true rfl ?_))
      skip
      refine W_region rfl ?_
      refine WL_is (X_move rfl rfl) rfl rfl rfl ?_
      refine WL_is (X_move rfl rfl) rfl rfl rfl ?_
      refine WL_buildSlice rfl rfl rfl rfl rfl rfl rfl rfl rfl rfl rfl rfl rfl ?_
      intro u
      refine WL_append (enc := encI) (L' := [(k : Int)]) (i := 1) rfl rfl rfl elemI rfl rfl (Src.own (i := 0) (c := [.int .i64 (k : Int)]) rfl rfl) (flatI _) (by simp only [List.length_cons, List.length_nil]; omega) (by simp only [List.length_cons, List.length_nil]; omega) rfl rfl rfl ?_
      intro v'
      refine WL_is (X_assign rfl rfl) rfl rfl rfl ?_
      (repeat (first | refine WL_nil ?_ | refine Then_normal ?_ | refine inBlk_normal ?_))
      skip
      refine W_region rfl ?_
      refine WL_is (X_move rfl rfl) rfl rfl rfl ?_
      refine WL_is (X_addW rfl rfl rfl (by exact wrap_i64_in (by omega) (by omega))) rfl rfl rfl ?_
      refine WL_is (X_assign rfl rfl) rfl rfl rfl ?_
      (repeat (first | refine WL_nil ?_ | refine Then_normal ?_))
      refine ⟨(k + 1, v'), ⟨(by repeat (first | exact SubE_nil | refine SubE_cons rfl ?_)), rfl, SubR.skip _ (SubR.of_perm (by rw [hl]; exact .refl _)), rfl⟩, by simp only; omega, by simp only; omega⟩
  · have hk8 : k = 8 := by omega
    subst hk8
    (repeat (first | refine W_seq ?_))
    refine W_region rfl ?_
    refine WL_is (X_move rfl rfl) rfl rfl rfl ?_
    refine WL_is (X_lss_f rfl rfl rfl (by omega)) rfl rfl rfl ?_
    (repeat (first | refine WL_nil ?_ | refine Then_normal ?_ | refine W_seq ?_ | refine W_exit ?_ | refine Then_exit ?_ | refine inBlk_here ?_ | refine W_false rfl ?_))
    skip
    refine W_region rfl ?_
    refine WL_is (X_move rfl rfl) rfl rfl rfl ?_
    refine WL_is (X_assign rfl rfl) rfl rfl rfl ?_
    (repeat (first | refine WL_nil ?_ | refine Then_normal ?_ | refine W_ret ?_))
    refine Body_vals (.cons (.tmp rfl) .nil) rfl ?_
    refine (UpdE.row (enc := encI) 0 rfl (lenI _)).then ?_
    rintro _ h2 hl2 ⟨rfl, hsl⟩
    exact UpdE.of Upd.ref ⟨hsl, rfl⟩
end Go.Proofs.Ytmicilnmphkpmaa
