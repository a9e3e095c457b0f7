/- Open files: closing. -/
import Derived.Test.YtmicilnmphkpmaaDescD
namespace Go.Proofs.Ytmicilnmphkpmaa
open Go Go.Par PH
attribute [local irreducible] W WL Does Exec Body Then inBlk RG WR row obj pblk
theorem cells_zero {L : FL} {fds : List Nat} (i : Nat) : (fds.map (ptr L)).set i (.pointer none) = (fds.set i 0).map (ptr L) := by rw [List.map_set]; rfl
set_option maxHeartbeats 1000000 in
theorem close_fn (h : PH) (b : Nat) (s : DS) (fd : Int) (hs : s.Ok) : Does Try.prog 15 [.pointer (some ⟨b, 0, none⟩), .int .i64 fd] [tabR b s] h
    (Ret fun r R' _ => r = .tuple #[fileV (s.file fd), .bool (s.last fd), .int .i64 (s.err fd)] ∧ R' = [tabR b (s.close fd)]) := by
  refine Does_of_W Try.func15 rfl (n := 34) rfl rfl (by simp only [argE, Nat.reduceAdd] <;> rfl) ?_
  refine W_updE (UpdE.tab 0 rfl) ?_
  rintro _ h - ⟨rfl, L, hL, rfl⟩
  have hl8 := hs.len
  (repeat (first | refine W_seq ?_))
  skip
  refine W_region rfl ?_
  (refine WL_alloc rfl rfl rfl rfl rfl rfl ?_; intro b_)
  refine WL_is (X_assign rfl rfl) rfl rfl rfl ?_
  refine WL_is (X_assign rfl rfl) rfl rfl rfl ?_
  (repeat (first | refine WL_nil ?_ | refine Then_normal ?_ | refine W_seq ?_))
  skip
  refine W_region rfl ?_
  refine WL_is (X_move rfl rfl) rfl rfl rfl ?_
  refine WL_is (X_move rfl rfl) rfl rfl rfl ?_
  refine WL_callR [tblk b L s.fds] _ rfl rfl rfl Try.func24 rfl rfl rfl rfl (perm_front 1 rfl) (file_fn h b L s.fds fd hs.len (ok_le hs hL)) ?_
  rintro r R' h' hl ⟨rfl, rfl⟩
  simp only [List.cons_append, List.nil_append, List.eraseIdx_cons_zero]
  unfold DS.file DS.err DS.last DS.close
  by_cases h0 : atF s.fds fd = 0
  · simp only [if_pos h0]
    rw [h0]
    simp only [ptr]
    refine WL_is (X_move rfl rfl) rfl rfl rfl ?_
    refine WL_is (X_extract rfl rfl rfl) rfl rfl rfl ?_
    refine WL_is (X_extract rfl rfl rfl) rfl rfl rfl ?_
    refine WL_is (X_assign rfl rfl) rfl rfl rfl ?_
    refine WL_is (X_assign rfl rfl) rfl rfl rfl ?_
    (repeat (first | refine WL_nil ?_ | refine Then_normal ?_ | refine W_seq ?_))
    skip
    refine W_region rfl ?_
    refine WL_is (X_move rfl rfl) rfl rfl rfl ?_
    refine WL_is (X_neq_t rfl rfl rfl (by omega)) rfl rfl rfl ?_
    (repeat (first | refine WL_nil ?_ | refine Then_normal ?_ | refine W_seq ?_ | refine W_true rfl ?_))
    skip
    refine W_region rfl ?_
    refine WL_is (X_loadA rfl rfl (by exact idx1) rfl rfl rfl) rfl rfl rfl ?_
    refine WL_is (X_move rfl rfl) rfl rfl rfl ?_
    refine WL_store rfl rfl rfl (by exact idx1) rfl rfl rfl rfl rfl rfl rfl rfl rfl ?_
    refine WL_is (X_assign rfl rfl) rfl rfl rfl ?_
    refine WL_is (X_assign rfl rfl) rfl rfl rfl ?_
    (repeat (first | refine WL_nil ?_ | refine Then_normal ?_ | refine W_ret ?_ | refine Then_ret ?_))
    refine Body_vals (.cons (.cellA rfl idx1 rfl rfl rfl) (.cons (.tmp rfl) (.cons (.tmp rfl) .nil))) rfl ?_
    refine (UpdE.sub (A := fun R' _ => R' = [tblk b L s.fds, filesR L]) (SubR.cons _ (SubR.skip _ (SubR.refl _))) rfl).then ?_
    rintro _ h'' - rfl
    exact UpdE.of (Upd.tab hL) ⟨rfl, rfl⟩
  · simp only [if_neg h0]
    obtain ⟨k, hk, rfl, hk8, e2⟩ := atF_mem h0
    obtain ⟨j, hj, e, hp⟩ := ptr_pos (L := L) (k := atF s.fds (k : Int)) (by omega) (by rw [e2]; exact ok_le hs hL _ (List.getElem_mem _))
    rw [hp, e]
    have hf := at_of hL hj
    simp only [Nat.add_sub_cancel, Int.toNat_natCast]
    rw [hf]
    have hcl := contains_lent h' b L (s.fds.set k 0) j hj (by simp [hl8]) (fun x hx => by
      rcases List.mem_or_eq_of_mem_set hx with h | h
      · exact ok_le hs hL x h
      · omega)
    have hcz := cells_zero (L := L) (fds := s.fds) k
    unfold tblk
    refine WL_is (X_move rfl rfl) rfl rfl rfl ?_
    refine WL_is (X_extract rfl rfl rfl) rfl rfl rfl ?_
    refine WL_is (X_extract rfl rfl rfl) rfl rfl rfl ?_
    refine WL_is (X_assign rfl rfl) rfl rfl rfl ?_
    refine WL_is (X_assign rfl rfl) rfl rfl rfl ?_
    (repeat (first | refine WL_nil ?_ | refine Then_normal ?_ | refine W_seq ?_))
    skip
    refine W_region rfl ?_
    refine WL_is (X_move rfl rfl) rfl rfl rfl ?_
    refine WL_is (X_neq_f rfl rfl rfl (by omega)) rfl rfl rfl ?_
    (repeat (first | refine WL_nil ?_ | refine Then_normal ?_ | refine W_seq ?_ | refine W_skip ?_ | refine W_false rfl ?_))
    skip
    refine W_region rfl ?_
    refine WL_is (X_move rfl rfl) rfl rfl rfl ?_
    refine WL_is (X_move rfl rfl) rfl rfl rfl ?_
    refine WL_is (X_nilCheck rfl rfl) rfl rfl rfl ?_
    refine WL_is (X_fieldAddr rfl rfl rfl (by simp only [Nat.zero_add] <;> rfl)) rfl rfl rfl ?_
    refine WL_is (X_index_arr (sz := 1) rfl rfl rfl rfl rfl (by omega) (by omega) (by simp only [Nat.zero_add, Int.toNat_natCast, Nat.mul_one] <;> rfl)) rfl rfl rfl ?_
    refine WL_storeV (sz := 1) rfl rfl rfl (by exact idx0) rfl (by simp only [vc] <;> rfl) rfl rfl (by (simp only [List.length_map]; omega)) rfl rfl (by simp only [wr] <;> rfl) (by simp only [List.set_cons_zero] <;> rfl) ?_
    (repeat (first | refine WL_nil ?_ | refine Then_normal ?_ | refine W_seq ?_))
    skip
    refine W_region rfl ?_
    refine WL_is (X_move rfl rfl) rfl rfl rfl ?_
    refine WL_is (X_nilCheck rfl rfl) rfl rfl rfl ?_
    refine WL_is (X_fieldAddr rfl rfl rfl (by simp only [Nat.zero_add] <;> rfl)) rfl rfl rfl ?_
    refine WL_is (X_sliceArr rfl rfl rfl rfl) rfl rfl rfl ?_
    refine WL_is (X_move rfl rfl) rfl rfl rfl ?_
    rw [hcz]
    refine WL_callR [tblk b L (s.fds.set k 0), filesR L] _ rfl rfl rfl Try.func26 rfl rfl rfl rfl ((perm_front 2 rfl).trans ((List.Perm.swap _ _ _).trans (.refl _))) hcl ?_
    rintro r R' h2 hl2 ⟨rfl, rfl⟩
    simp only [List.cons_append, List.nil_append, List.eraseIdx_cons_zero]
    refine WL_upd (Upd.take 1 j rfl hj) ?_
    simp only [fblk, encF, List.eraseIdx_cons_succ, List.eraseIdx_cons_zero]
    refine WL_is (X_not rfl rfl) rfl rfl rfl ?_
    refine WL_is (X_assign rfl rfl) rfl rfl rfl ?_
    (repeat (first | refine WL_nil ?_ | refine Then_normal ?_ | refine W_seq ?_))
    skip
    refine W_region rfl ?_
    refine WL_is (X_move rfl rfl) rfl rfl rfl ?_
    refine WL_is (X_nilCheck rfl rfl) rfl rfl rfl ?_
    refine WL_is (X_loadA rfl rfl (by exact idx0) rfl rfl rfl) rfl rfl rfl ?_
    refine WL_is (X_move rfl rfl) rfl rfl rfl ?_
    refine WL_store rfl rfl rfl (by exact idx3) rfl rfl rfl rfl rfl rfl rfl rfl rfl ?_
    refine WL_is (X_assign rfl rfl) rfl rfl rfl ?_
    refine WL_is (X_assign rfl rfl) rfl rfl rfl ?_
    (repeat (first | refine WL_nil ?_ | refine Then_normal ?_ | refine W_ret ?_))
    refine Body_vals (.cons (.cellA rfl idx3 rfl rfl rfl) (.cons (.tmp rfl) (.cons (.tmp rfl) .nil))) rfl ?_
    refine (UpdE.of (A := fun R' _ => R' = _) (Upd.put (f := (L[j]).2) j hj rfl) rfl).then ?_
    rintro _ h'' - rfl
    rw [show L.set j ((L[j]).1, (L[j]).2) = L from List.set_getElem_self hj]
    refine (UpdE.sub (A := fun R' _ => R' = [tblk b L (s.fds.set k 0), filesR L]) ((SubR.of_perm (.swap _ _ _)).trans (SubR.cons _ (SubR.cons _ (SubR.none _)))) rfl).then ?_
    rintro _ h'' - rfl
    exact UpdE.of (Upd.tab (s := ⟨s.all, s.fds.set k 0⟩) hL) ⟨rfl, rfl⟩
end Go.Proofs.Ytmicilnmphkpmaa
