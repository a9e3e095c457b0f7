/- Open files: moves, doubles, opens. -/
import Derived.Test.YtmicilnmphkpmaaDescB
namespace Go.Proofs.Ytmicilnmphkpmaa
open Go Go.Par PH
attribute [local irreducible] W WL Does Exec Body Then inBlk RG WR row obj pblk
theorem map_set_snd {L : FL} {j : Nat} (b : Nat) (f : FileD) : (L.set j (b, f)).map (·.2) = (L.map (·.2)).set j f := by simp
theorem ptr_set {L : FL} {j : Nat} (hj : j < L.length) (f : FileD) (k : Nat) : ptr (L.set j ((L[j]).1, f)) k = ptr L k := by
  cases k with
  | zero => rfl
  | succ k =>
    simp only [ptr]
    by_cases e : j = k
    · subst e; simp [hj]
    · rw [List.getElem?_set_ne e]
theorem tblk_set {b : Nat} {L : FL} {j : Nat} (hj : j < L.length) (f : FileD) (fds : List Nat) : tblk b (L.set j ((L[j]).1, f)) fds = tblk b L fds := by
  unfold tblk
  rw [show fds.map (ptr (L.set j ((L[j]).1, f))) = fds.map (ptr L) from List.map_congr_left fun k _ => ptr_set hj f k]
theorem ptr_app {L : FL} {k : Nat} (hk : k ≤ L.length) (x : Nat × FileD) : ptr (L ++ [x]) k = ptr L k := by
  cases k with
  | zero => rfl
  | succ k => simp only [ptr]; rw [List.getElem?_append_left (by omega)]
theorem cells_app {L : FL} {fds : List Nat} (hle : ∀ k ∈ fds, k ≤ L.length) (x : Nat × FileD) (i : Nat) : (fds.map (ptr L)).set i (.pointer (some ⟨x.1, 0, none⟩)) = (fds.set i (L.length + 1)).map (ptr (L ++ [x])) := by
  rw [List.map_set]
  have : fds.map (ptr (L ++ [x])) = fds.map (ptr L) := List.map_congr_left fun k hk => ptr_app (hle k hk) x
  rw [this]
  congr 1
  simp [ptr]
theorem cells_set {L : FL} {fds : List Nat} (i k : Nat) : (fds.map (ptr L)).set i (ptr L k) = (fds.set i k).map (ptr L) := by rw [List.map_set]

set_option maxHeartbeats 1000000 in
theorem move_fn (h : PH) (b : Nat) (s : DS) (fd off : Int) (hs : s.Ok) : Does Try.prog 11 [.pointer (some ⟨b, 0, none⟩), .int .i64 fd, .int .i64 off] [tabR b s] h
    (Ret fun r R' _ => r = .int .i64 (s.moveE fd off) ∧ R' = [tabR b (s.move fd off)]) := by
  refine Does_of_W Try.func11 rfl (n := 24) rfl rfl (by simp only [argE, Nat.reduceAdd] <;> rfl) ?_
  refine W_updE (UpdE.tab 0 rfl) ?_
  rintro _ h - ⟨rfl, L, hL, rfl⟩
  have hl8 := hs.len
  (repeat (first | refine W_seq ?_))
  skip
  refine W_region rfl ?_
  refine WL_is (X_assign rfl rfl) rfl rfl rfl ?_
  (repeat (first | refine WL_nil ?_ | refine Then_normal ?_ | refine W_seq ?_))
  skip
  refine W_region rfl ?_
  refine WL_is (X_move rfl rfl) rfl rfl rfl ?_
  refine WL_is (X_move rfl rfl) rfl rfl rfl ?_
  refine WL_callR [tblk b L s.fds] _ rfl rfl rfl Try.func24 rfl rfl rfl rfl (.refl _) (file_fn h b L s.fds fd hs.len (ok_le hs hL)) ?_
  rintro r R' h' hl ⟨rfl, rfl⟩
  simp only [List.cons_append, List.nil_append]
  unfold DS.moveE DS.move DS.file
  by_cases h0 : atF s.fds fd = 0
  · simp only [h0, true_or, if_true]
    simp only [ptr]
    refine WL_is (X_move rfl rfl) rfl rfl rfl ?_
    refine WL_is (X_extract rfl rfl rfl) rfl rfl rfl ?_
    refine WL_is (X_extract rfl rfl rfl) rfl rfl rfl ?_
    refine WL_is (X_assign rfl rfl) rfl rfl rfl ?_
    refine WL_is (X_assign rfl rfl) rfl rfl rfl ?_
    (repeat (first | refine WL_nil ?_ | refine Then_normal ?_ | refine W_seq ?_))
    skip
    refine W_region rfl ?_
    refine WL_is (X_move rfl rfl) rfl rfl rfl ?_
    refine WL_is (X_neq_t rfl rfl rfl (by omega)) rfl rfl rfl ?_
    (repeat (first | refine WL_nil ?_ | refine Then_normal ?_ | refine W_seq ?_ | refine W_true rfl ?_))
    skip
    refine W_region rfl ?_
    refine WL_is (X_move rfl rfl) rfl rfl rfl ?_
    refine WL_is (X_assign rfl rfl) rfl rfl rfl ?_
    (repeat (first | refine WL_nil ?_ | refine Then_normal ?_ | refine W_ret ?_ | refine Then_ret ?_))
    refine Body_vals (.cons (.tmp rfl) .nil) rfl ?_
    exact UpdE.of (Upd.tab hL) ⟨rfl, rfl⟩
  · simp only [h0, false_or]
    obtain ⟨k, hk, e1, hk8, e2⟩ := atF_mem h0
    obtain ⟨j, hj, e, hp⟩ := ptr_pos (L := L) (k := atF s.fds fd) (by omega) (by rw [e2]; exact ok_le hs hL _ (List.getElem_mem _))
    rw [hp, e]
    by_cases h1 : off < 0
    · simp only [if_pos h1]
      refine WL_is (X_move rfl rfl) rfl rfl rfl ?_
      refine WL_is (X_extract rfl rfl rfl) rfl rfl rfl ?_
      refine WL_is (X_extract rfl rfl rfl) rfl rfl rfl ?_
      refine WL_is (X_assign rfl rfl) rfl rfl rfl ?_
      refine WL_is (X_assign rfl rfl) rfl rfl rfl ?_
      (repeat (first | refine WL_nil ?_ | refine Then_normal ?_ | refine W_seq ?_))
      skip
      refine W_region rfl ?_
      refine WL_is (X_move rfl rfl) rfl rfl rfl ?_
      refine WL_is (X_neq rfl rfl rfl) rfl rfl rfl ?_
      (repeat (first | refine WL_nil ?_ | refine Then_normal ?_ | refine W_seq ?_ | refine W_skip ?_ | refine W_false rfl ?_))
      skip
      refine W_region rfl ?_
      refine WL_is (X_move rfl rfl) rfl rfl rfl ?_
      refine WL_is (X_lss_t rfl rfl rfl (by omega)) rfl rfl rfl ?_
      (repeat (first | refine WL_nil ?_ | refine Then_normal ?_ | refine W_seq ?_ | refine W_true rfl ?_))
      skip
      refine W_region rfl ?_
      refine WL_is (X_assign rfl rfl) rfl rfl rfl ?_
      (repeat (first | refine WL_nil ?_ | refine Then_normal ?_ | refine W_ret ?_ | refine Then_ret ?_))
      refine Body_vals (.cons (.tmp rfl) .nil) rfl ?_
      exact UpdE.of (Upd.tab hL) ⟨rfl, rfl⟩
    · simp only [if_neg h1]
      have hf := at_of hL hj
      simp only [Nat.add_sub_cancel]
      rw [hf]
      refine WL_upd (Upd.take 1 j rfl hj) ?_
      simp only [fblk, encF, List.eraseIdx_cons_succ, List.eraseIdx_cons_zero]
      refine WL_is (X_move rfl rfl) rfl rfl rfl ?_
      refine WL_is (X_extract rfl rfl rfl) rfl rfl rfl ?_
      refine WL_is (X_extract rfl rfl rfl) rfl rfl rfl ?_
      refine WL_is (X_assign rfl rfl) rfl rfl rfl ?_
      refine WL_is (X_assign rfl rfl) rfl rfl rfl ?_
      (repeat (first | refine WL_nil ?_ | refine Then_normal ?_ | refine W_seq ?_))
      skip
      refine W_region rfl ?_
      refine WL_is (X_move rfl rfl) rfl rfl rfl ?_
      refine WL_is (X_neq rfl rfl rfl) rfl rfl rfl ?_
      (repeat (first | refine WL_nil ?_ | refine Then_normal ?_ | refine W_seq ?_ | refine W_skip ?_ | refine W_false rfl ?_))
      skip
      refine W_region rfl ?_
      refine WL_is (X_move rfl rfl) rfl rfl rfl ?_
      refine WL_is (X_lss_f rfl rfl rfl (by omega)) rfl rfl rfl ?_
      (repeat (first | refine WL_nil ?_ | refine Then_normal ?_ | refine W_seq ?_ | refine W_skip ?_ | refine W_false rfl ?_))
      skip
      refine W_region rfl ?_
      refine WL_is (X_move rfl rfl) rfl rfl rfl ?_
      refine WL_is (X_move rfl rfl) rfl rfl rfl ?_
      refine WL_is (X_nilCheck rfl rfl) rfl rfl rfl ?_
      refine WL_is (X_fieldAddr rfl rfl rfl (by simp only [Nat.zero_add] <;> rfl)) rfl rfl rfl ?_
      refine WL_store rfl rfl rfl (by exact idx0) rfl rfl rfl rfl rfl rfl rfl rfl rfl ?_
      (repeat (first | refine WL_nil ?_ | refine Then_normal ?_ | refine W_seq ?_))
      skip
      refine W_region rfl ?_
      refine WL_is (X_assign rfl rfl) rfl rfl rfl ?_
      (repeat (first | refine WL_nil ?_ | refine Then_normal ?_ | refine W_ret ?_))
      refine Body_vals (.cons (.tmp rfl) .nil) rfl ?_
      refine (UpdE.of (A := fun R' _ => R' = _) (Upd.put (f := { (L[j]).2 with off := off }) j hj rfl) rfl).then ?_
      rintro _ h'' - rfl
      refine (UpdE.sub (A := fun R' _ => R' = [tblk b L s.fds, filesR _]) (SubR.of_perm (.swap _ _ _)) rfl).then ?_
      rintro _ h'' - rfl
      rw [← tblk_set hj { (L[j]).2 with off := off }]
      refine UpdE.of (Upd.tab (s := ⟨s.all.set j { (L[j]).2 with off := off }, s.fds⟩) ?_) ⟨rfl, rfl⟩
      rw [map_set_snd, hL]

set_option maxHeartbeats 1000000 in
theorem dup_fn (h : PH) (b : Nat) (s : DS) (fd : Int) (hs : s.Ok) : Does Try.prog 13 [.pointer (some ⟨b, 0, none⟩), .int .i64 fd] [tabR b s] h
    (Ret fun r R' _ => r = .tuple #[.int .i64 (s.dupN fd), .int .i64 (s.dupE fd)] ∧ R' = [tabR b (s.dup fd)]) := by
  refine Does_of_W Try.func13 rfl (n := 33) rfl rfl (by simp only [argE, Nat.reduceAdd] <;> rfl) ?_
  refine W_updE (UpdE.tab 0 rfl) ?_
  rintro _ h - ⟨rfl, L, hL, rfl⟩
  have hl8 := hs.len
  (repeat (first | refine W_seq ?_))
  skip
  refine W_region rfl ?_
  refine WL_is (X_assign rfl rfl) rfl rfl rfl ?_
  refine WL_is (X_assign rfl rfl) rfl rfl rfl ?_
  (repeat (first | refine WL_nil ?_ | refine Then_normal ?_ | refine W_seq ?_))
  skip
  refine W_region rfl ?_
  refine WL_is (X_move rfl rfl) rfl rfl rfl ?_
  refine WL_is (X_move rfl rfl) rfl rfl rfl ?_
  refine WL_callR [tblk b L s.fds] _ rfl rfl rfl Try.func24 rfl rfl rfl rfl (.refl _) (file_fn h b L s.fds fd hs.len (ok_le hs hL)) ?_
  rintro r R' h' hl ⟨rfl, rfl⟩
  simp only [List.cons_append, List.nil_append]
  unfold DS.dupE DS.dup DS.dupN
  by_cases h0 : atF s.fds fd = 0
  · simp only [h0, true_or, if_true]
    simp only [ptr]
    refine WL_is (X_move rfl rfl) rfl rfl rfl ?_
    refine WL_is (X_extract rfl rfl rfl) rfl rfl rfl ?_
    refine WL_is (X_extract rfl rfl rfl) rfl rfl rfl ?_
    refine WL_is (X_assign rfl rfl) rfl rfl rfl ?_
    refine WL_is (X_assign rfl rfl) rfl rfl rfl ?_
    (repeat (first | refine WL_nil ?_ | refine Then_normal ?_ | refine W_seq ?_))
    skip
    refine W_region rfl ?_
    refine WL_is (X_move rfl rfl) rfl rfl rfl ?_
    refine WL_is (X_neq_t rfl rfl rfl (by omega)) rfl rfl rfl ?_
    (repeat (first | refine WL_nil ?_ | refine Then_normal ?_ | refine W_seq ?_ | refine W_true rfl ?_))
    skip
    refine W_region rfl ?_
    refine WL_is (X_move rfl rfl) rfl rfl rfl ?_
    refine WL_is (X_assign rfl rfl) rfl rfl rfl ?_
    refine WL_is (X_assign rfl rfl) rfl rfl rfl ?_
    (repeat (first | refine WL_nil ?_ | refine Then_normal ?_ | refine W_ret ?_ | refine Then_ret ?_))
    refine Body_vals (.cons (.tmp rfl) (.cons (.tmp rfl) .nil)) rfl ?_
    exact UpdE.of (Upd.tab hL) ⟨rfl, rfl⟩
  · simp only [h0, false_or]
    obtain ⟨k, hk, e1, hk8, e2⟩ := atF_mem h0
    refine WL_is (X_move rfl rfl) rfl rfl rfl ?_
    refine WL_is (X_extract rfl rfl rfl) rfl rfl rfl ?_
    refine WL_is (X_extract rfl rfl rfl) rfl rfl rfl ?_
    refine WL_is (X_assign rfl rfl) rfl rfl rfl ?_
    refine WL_is (X_assign rfl rfl) rfl rfl rfl ?_
    (repeat (first | refine WL_nil ?_ | refine Then_normal ?_ | refine W_seq ?_))
    skip
    refine W_region rfl ?_
    refine WL_is (X_move rfl rfl) rfl rfl rfl ?_
    refine WL_is (X_neq rfl rfl rfl) rfl rfl rfl ?_
    (repeat (first | refine WL_nil ?_ | refine Then_normal ?_ | refine W_seq ?_ | refine W_skip ?_ | refine W_false rfl ?_))
    skip
    refine W_region rfl ?_
    refine WL_is (X_move rfl rfl) rfl rfl rfl ?_
    refine WL_callR [tblk b L s.fds] _ rfl rfl rfl Try.func22 rfl rfl rfl rfl (.refl _) (free_fn h' b L s.fds hs.len (ok_le hs hL)) ?_
    rintro r R' h2 hl2 ⟨rfl, rfl⟩
    simp only [List.cons_append, List.nil_append]
    by_cases h1 : least s.fds < 8
    · simp only [if_pos h1, if_neg (not_not_intro h1), List.eraseIdx_cons_zero]
      obtain ⟨j, hj, e, hp⟩ := ptr_pos (L := L) (k := atF s.fds fd) (by omega) (by rw [e2]; exact ok_le hs hL _ (List.getElem_mem _))
      have hcs := cells_set (L := L) (fds := s.fds) (least s.fds) (atF s.fds fd)
      unfold tblk
      rw [hp] at hcs ⊢
      refine WL_is (X_move rfl rfl) rfl rfl rfl ?_
      refine WL_is (X_extract rfl rfl rfl) rfl rfl rfl ?_
      refine WL_is (X_extract rfl rfl rfl) rfl rfl rfl ?_
      refine WL_is (X_assign rfl rfl) rfl rfl rfl ?_
      refine WL_is (X_assign rfl rfl) rfl rfl rfl ?_
      (repeat (first | refine WL_nil ?_ | refine Then_normal ?_ | refine W_seq ?_))
      skip
      refine W_region rfl ?_
      refine WL_is (X_move rfl rfl) rfl rfl rfl ?_
      refine WL_is (X_neq_f rfl rfl rfl (by omega)) rfl rfl rfl ?_
      (repeat (first | refine WL_nil ?_ | refine Then_normal ?_ | refine W_seq ?_ | refine W_skip ?_ | refine W_false rfl ?_))
      skip
      refine W_region rfl ?_
      refine WL_is (X_move rfl rfl) rfl rfl rfl ?_
      refine WL_is (X_move rfl rfl) rfl rfl rfl ?_
      refine WL_is (X_move rfl rfl) rfl rfl rfl ?_
      refine WL_is (X_nilCheck rfl rfl) rfl rfl rfl ?_
      refine WL_is (X_fieldAddr rfl rfl rfl (by simp only [Nat.zero_add] <;> rfl)) rfl rfl rfl ?_
      refine WL_is (X_index_arr (sz := 1) rfl rfl rfl rfl rfl (by omega) (by omega) (by simp only [Nat.zero_add, Int.toNat_natCast, Nat.mul_one] <;> rfl)) rfl rfl rfl ?_
      refine WL_storeV (sz := 1) rfl rfl rfl (by exact idx0) rfl (by simp only [vc] <;> rfl) rfl rfl (by (simp only [List.length_map]; omega)) rfl rfl (by simp only [wr] <;> rfl) (by simp only [List.set_cons_zero] <;> rfl) ?_
      (repeat (first | refine WL_nil ?_ | refine Then_normal ?_ | refine W_seq ?_))
      skip
      refine W_region rfl ?_
      refine WL_is (X_move rfl rfl) rfl rfl rfl ?_
      refine WL_is (X_assign rfl rfl) rfl rfl rfl ?_
      refine WL_is (X_assign rfl rfl) rfl rfl rfl ?_
      (repeat (first | refine WL_nil ?_ | refine Then_normal ?_ | refine W_ret ?_))
      refine Body_vals (.cons (.tmp rfl) (.cons (.tmp rfl) .nil)) rfl ?_
      rw [hcs]
      exact UpdE.of (Upd.tab (s := ⟨s.all, s.fds.set (least s.fds) (atF s.fds fd)⟩) hL) ⟨rfl, rfl⟩
    · simp only [if_neg h1, if_pos h1]
      refine WL_is (X_move rfl rfl) rfl rfl rfl ?_
      refine WL_is (X_extract rfl rfl rfl) rfl rfl rfl ?_
      refine WL_is (X_extract rfl rfl rfl) rfl rfl rfl ?_
      refine WL_is (X_assign rfl rfl) rfl rfl rfl ?_
      refine WL_is (X_assign rfl rfl) rfl rfl rfl ?_
      (repeat (first | refine WL_nil ?_ | refine Then_normal ?_ | refine W_seq ?_))
      skip
      refine W_region rfl ?_
      refine WL_is (X_move rfl rfl) rfl rfl rfl ?_
      refine WL_is (X_neq_t rfl rfl rfl (by omega)) rfl rfl rfl ?_
      (repeat (first | refine WL_nil ?_ | refine Then_normal ?_ | refine W_seq ?_ | refine W_true rfl ?_))
      skip
      refine W_region rfl ?_
      refine WL_is (X_move rfl rfl) rfl rfl rfl ?_
      refine WL_is (X_assign rfl rfl) rfl rfl rfl ?_
      refine WL_is (X_assign rfl rfl) rfl rfl rfl ?_
      (repeat (first | refine WL_nil ?_ | refine Then_normal ?_ | refine W_ret ?_ | refine Then_ret ?_))
      refine Body_vals (.cons (.tmp rfl) (.cons (.tmp rfl) .nil)) rfl ?_
      exact UpdE.of (Upd.tab hL) ⟨rfl, rfl⟩

set_option maxHeartbeats 1000000 in
theorem open_fn (h : PH) (b : Nat) (s : DS) (f : FileD) (hs : s.Ok) : Does Try.prog 9 [.pointer (some ⟨b, 0, none⟩), fileV f] [tabR b s] h
    (Ret fun r R' _ => r = .tuple #[.int .i64 s.openN, .int .i64 s.openE] ∧ R' = [tabR b (s.open f)]) := by
  unfold fileV
  refine Does_of_W Try.func9 rfl (n := 24) rfl rfl (by simp only [argE, Nat.reduceAdd] <;> rfl) ?_
  refine W_updE (UpdE.tab 0 rfl) ?_
  rintro _ h - ⟨rfl, L, hL, rfl⟩
  have hl8 := hs.len
  (repeat (first | refine W_seq ?_))
  skip
  refine W_region rfl ?_
  (refine WL_box rfl rfl rfl rfl rfl rfl ?_; intro b_)
  refine WL_is (X_assign rfl rfl) rfl rfl rfl ?_
  refine WL_is (X_assign rfl rfl) rfl rfl rfl ?_
  (repeat (first | refine WL_nil ?_ | refine Then_normal ?_ | refine W_seq ?_))
  skip
  refine W_region rfl ?_
  refine WL_is (X_move rfl rfl) rfl rfl rfl ?_
  refine WL_is (X_eqPn_f rfl rfl rfl rfl) rfl rfl rfl ?_
  (repeat (first | refine WL_nil ?_ | refine Then_normal ?_ | refine W_seq ?_ | refine W_skip ?_ | refine W_false rfl ?_))
  skip
  refine W_region rfl ?_
  refine WL_is (X_move rfl rfl) rfl rfl rfl ?_
  refine WL_callR [tblk b L s.fds] _ rfl rfl rfl Try.func22 rfl rfl rfl rfl (perm_front 1 rfl) (free_fn h b L s.fds hs.len (ok_le hs hL)) ?_
  rintro r R' h2 hl2 ⟨rfl, rfl⟩
  simp only [List.cons_append, List.nil_append, List.eraseIdx_cons_zero]
  unfold DS.openN DS.openE DS.open
  by_cases h1 : least s.fds < 8
  · simp only [if_pos h1]
    unfold tblk
    refine WL_is (X_move rfl rfl) rfl rfl rfl ?_
    refine WL_is (X_extract rfl rfl rfl) rfl rfl rfl ?_
    refine WL_is (X_extract rfl rfl rfl) rfl rfl rfl ?_
    refine WL_is (X_assign rfl rfl) rfl rfl rfl ?_
    refine WL_is (X_assign rfl rfl) rfl rfl rfl ?_
    (repeat (first | refine WL_nil ?_ | refine Then_normal ?_ | refine W_seq ?_))
    skip
    refine W_region rfl ?_
    refine WL_is (X_move rfl rfl) rfl rfl rfl ?_
    refine WL_is (X_eql_t rfl rfl rfl (by omega)) rfl rfl rfl ?_
    (repeat (first | refine WL_nil ?_ | refine Then_normal ?_ | refine W_true rfl ?_))
    skip
    refine W_region rfl ?_
    refine WL_is (X_move rfl rfl) rfl rfl rfl ?_
    refine WL_is (X_move rfl rfl) rfl rfl rfl ?_
    refine WL_is (X_nilCheck rfl rfl) rfl rfl rfl ?_
    refine WL_is (X_fieldAddr rfl rfl rfl (by simp only [Nat.zero_add] <;> rfl)) rfl rfl rfl ?_
    refine WL_is (X_index_arr (sz := 1) rfl rfl rfl rfl rfl (by omega) (by omega) (by simp only [Nat.zero_add, Int.toNat_natCast, Nat.mul_one] <;> rfl)) rfl rfl rfl ?_
    refine WL_storeV (sz := 1) rfl rfl rfl (by exact idx0) rfl (by simp only [vc] <;> rfl) rfl rfl (by (simp only [List.length_map]; omega)) rfl rfl (by simp only [wr] <;> rfl) (by simp only [List.set_cons_zero] <;> rfl) ?_
    (repeat (first | refine WL_nil ?_ | refine Then_normal ?_ | refine W_seq ?_))
    skip
    refine W_region rfl ?_
    refine WL_is (X_move rfl rfl) rfl rfl rfl ?_
    refine WL_is (X_move rfl rfl) rfl rfl rfl ?_
    refine WL_is (X_assign rfl rfl) rfl rfl rfl ?_
    refine WL_is (X_assign rfl rfl) rfl rfl rfl ?_
    (repeat (first | refine WL_nil ?_ | refine Then_normal ?_ | refine W_ret ?_))
    refine Body_vals (.cons (.tmp rfl) (.cons (.tmp rfl) .nil)) rfl ?_
    rw [cells_app (ok_le hs hL) (b_, f)]
    rw [len_of hL]
    refine (UpdE.sub (A := fun R' _ => R' = [blk b_ (encF f) 33, filesR L, tblk b (L ++ [(b_, f)]) _]) (SubR.of_perm ((List.Perm.swap _ _ _).trans ((List.Perm.swap _ _ _).cons _))) rfl).then ?_
    rintro _ h'' - rfl
    refine (UpdE.of (A := fun R' _ => R' = _) (Upd.grow (f := f)) rfl).then ?_
    rintro _ h'' - rfl
    refine (UpdE.sub (A := fun R' _ => R' = [_, _]) (SubR.of_perm (.swap _ _ _)) rfl).then ?_
    rintro _ h'' - rfl
    refine UpdE.of (Upd.tab (s := ⟨s.all ++ [f], s.fds.set (least s.fds) (s.all.length + 1)⟩) ?_) ⟨rfl, rfl⟩
    · simp [hL]
  · simp only [if_neg h1]
    refine WL_is (X_move rfl rfl) rfl rfl rfl ?_
    refine WL_is (X_extract rfl rfl rfl) rfl rfl rfl ?_
    refine WL_is (X_extract rfl rfl rfl) rfl rfl rfl ?_
    refine WL_is (X_assign rfl rfl) rfl rfl rfl ?_
    refine WL_is (X_assign rfl rfl) rfl rfl rfl ?_
    (repeat (first | refine WL_nil ?_ | refine Then_normal ?_ | refine W_seq ?_))
    skip
    refine W_region rfl ?_
    refine WL_is (X_move rfl rfl) rfl rfl rfl ?_
    refine WL_is (X_eql_f rfl rfl rfl (by omega)) rfl rfl rfl ?_
    (repeat (first | refine WL_nil ?_ | refine Then_normal ?_ | refine W_seq ?_ | refine W_skip ?_ | refine W_false rfl ?_))
    skip
    refine W_region rfl ?_
    refine WL_is (X_move rfl rfl) rfl rfl rfl ?_
    refine WL_is (X_move rfl rfl) rfl rfl rfl ?_
    refine WL_is (X_assign rfl rfl) rfl rfl rfl ?_
    refine WL_is (X_assign rfl rfl) rfl rfl rfl ?_
    (repeat (first | refine WL_nil ?_ | refine Then_normal ?_ | refine W_ret ?_))
    refine Body_vals (.cons (.tmp rfl) (.cons (.tmp rfl) .nil)) rfl ?_
    refine (UpdE.sub (A := fun R' _ => R' = [tblk b L s.fds, filesR L]) (SubR.cons _ (SubR.skip _ (SubR.refl _))) rfl).then ?_
    rintro _ h'' - rfl
    exact UpdE.of (Upd.tab hL) ⟨rfl, rfl⟩
/-- A new table. -/
theorem new_fn (h : PH) : Does Try.prog 8 [] [] h (Ret fun r R' _ => ∃ b, r = .pointer (some ⟨b, 0, none⟩) ∧ R' = [tabR b ⟨[], [0, 0, 0, 0, 0, 0, 0, 0]⟩]) := by
  refine Does_of_W Try.func8 rfl (n := 3) rfl rfl (by simp only [argE] <;> rfl) ?_
  (repeat (first | refine W_seq ?_))
  skip
  refine W_region rfl ?_
  refine WL_is (X_assign rfl rfl) rfl rfl rfl ?_
  (repeat (first | refine WL_nil ?_ | refine Then_normal ?_ | refine W_seq ?_))
  skip
  refine W_region rfl ?_
  refine WL_is (X_build rfl rfl rfl) rfl rfl rfl ?_
  (refine WL_box rfl rfl rfl rfl rfl rfl ?_; intro b_)
  refine WL_is (X_assign rfl rfl) rfl rfl rfl ?_
  (repeat (first | refine WL_nil ?_ | refine Then_normal ?_ | refine W_ret ?_))
  refine Body_vals (.cons (.tmp rfl) .nil) rfl ?_
  refine UpdE.of (Upd.wkn (R' := [tabR b_ ⟨[], [0, 0, 0, 0, 0, 0, 0, 0]⟩]) ?_) ⟨b_, rfl, rfl⟩
  rintro g ⟨a, c, e, hd, h1, h2⟩
  have h2 : c = none_ := h2
  subst h2
  rw [un_none_right] at e
  subst e
  exact ⟨g, none_, (un_none_right _).symm, dj_none_right _, ⟨[], rfl, g, none_, (un_none_right _).symm, dj_none_right _, h1, none_, none_, (un_none_right _).symm, dj_none_right _, rfl, rfl⟩, rfl⟩
end Go.Proofs.Ytmicilnmphkpmaa
