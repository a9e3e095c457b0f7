/- Values under keys: pieces laid together. -/
import Derived.Test.YtakdjabamjgcfaaXattrC
namespace Go.Proofs.Ytakdjabamjgcfaa
set_option maxRecDepth 4000
open Go Go.Par PH
def encS (x : Value) : List Value := [x]
theorem lenS (l : List Value) : ∀ x ∈ l, (encS x).length = 1 := fun _ _ => rfl
attribute [local irreducible] W WL Does Exec Body Then inBlk RG WR row obj pblk
set_option maxHeartbeats 400000 in
theorem grow_fn (h : PH) (m : Nat) (hm : m ≤ 1000000) : Does Try.prog 42 [.slice none 0 0, .int .i64 (m : Int)] [] h (Ret fun r R' _ => R' = [rowL encX r 42 2 []]) := by
  refine Does_of_W Try.func42 rfl (n := 27) rfl rfl (by simp only [argE, Nat.reduceAdd] <;> rfl) ?_
  by_cases h0 : m = 0
  · subst h0
    (repeat (first | refine W_seq ?_))
    skip
    refine W_region rfl ?_
    refine WL_is (X_assign rfl rfl) rfl rfl rfl ?_
    (repeat (first | refine WL_nil ?_ | refine Then_normal ?_ | refine W_seq ?_))
    skip
    refine W_region rfl ?_
    refine WL_is (X_move rfl rfl) rfl rfl rfl ?_
    refine WL_is (X_lss_f rfl rfl rfl (by omega)) rfl rfl rfl ?_
    (repeat (first | refine WL_nil ?_ | refine Then_normal ?_ | refine W_seq ?_ | refine W_skip ?_ | refine W_false rfl ?_))
    skip
    refine W_region rfl ?_
    refine WL_is (X_move rfl rfl) rfl rfl rfl ?_
    refine WL_is (X_move rfl rfl) rfl rfl rfl ?_
    refine WL_is (X_cap rfl rfl rfl) rfl rfl rfl ?_
    refine WL_is (X_move rfl rfl) rfl rfl rfl ?_
    refine WL_is (X_len rfl rfl rfl) rfl rfl rfl ?_
    refine WL_is (X_subW rfl rfl rfl (by exact wrap_i64_in (by omega) (by omega))) rfl rfl rfl ?_
    refine WL_is (X_subW rfl rfl rfl (by exact wrap_i64_in (by omega) (by omega))) rfl rfl rfl ?_
    refine WL_is (X_assign rfl rfl) rfl rfl rfl ?_
    (repeat (first | refine WL_nil ?_ | refine Then_normal ?_ | refine W_seq ?_))
    skip
    refine W_region rfl ?_
    refine WL_is (X_move rfl rfl) rfl rfl rfl ?_
    refine WL_is (X_gtr_f rfl rfl rfl (by omega)) rfl rfl rfl ?_
    (repeat (first | refine WL_nil ?_ | refine Then_normal ?_ | refine W_seq ?_ | refine W_skip ?_ | refine W_false rfl ?_))
    skip
    refine W_region rfl ?_
    refine WL_is (X_move rfl rfl) rfl rfl rfl ?_
    refine WL_is (X_assign rfl rfl) rfl rfl rfl ?_
    (repeat (first | refine WL_nil ?_ | refine Then_normal ?_ | refine W_ret ?_))
    refine Body_vals (.cons (.tmp rfl) .nil) rfl ?_
    exact UpdE.of (Upd.nilrow (e := 42) (sz := 2)) rfl
  · have hp : (m : Int) > 0 := by omega
    (repeat (first | refine W_seq ?_))
    skip
    refine W_region rfl ?_
    refine WL_is (X_assign rfl rfl) rfl rfl rfl ?_
    (repeat (first | refine WL_nil ?_ | refine Then_normal ?_ | refine W_seq ?_))
    skip
    refine W_region rfl ?_
    refine WL_is (X_move rfl rfl) rfl rfl rfl ?_
    refine WL_is (X_lss_f rfl rfl rfl (by omega)) rfl rfl rfl ?_
    (repeat (first | refine WL_nil ?_ | refine Then_normal ?_ | refine W_seq ?_ | refine W_skip ?_ | refine W_false rfl ?_))
    skip
    refine W_region rfl ?_
    refine WL_is (X_move rfl rfl) rfl rfl rfl ?_
    refine WL_is (X_move rfl rfl) rfl rfl rfl ?_
    refine WL_is (X_cap rfl rfl rfl) rfl rfl rfl ?_
    refine WL_is (X_move rfl rfl) rfl rfl rfl ?_
    refine WL_is (X_len rfl rfl rfl) rfl rfl rfl ?_
    refine WL_is (X_subW rfl rfl rfl (by exact wrap_i64_in (by omega) (by omega))) rfl rfl rfl ?_
    refine WL_is (X_subW rfl rfl rfl (by exact wrap_i64_in (by omega) (by omega))) rfl rfl rfl ?_
    refine WL_is (X_assign rfl rfl) rfl rfl rfl ?_
    (repeat (first | refine WL_nil ?_ | refine Then_normal ?_ | refine W_seq ?_))
    skip
    refine W_region rfl ?_
    refine WL_is (X_move rfl rfl) rfl rfl rfl ?_
    refine WL_is (X_gtr_t rfl rfl rfl (by omega)) rfl rfl rfl ?_
    (repeat (first | refine WL_nil ?_ | refine Then_normal ?_ | refine W_true rfl ?_))
    skip
    refine W_region rfl ?_
    refine WL_is (X_move rfl rfl) rfl rfl rfl ?_
    refine WL_is (X_move rfl rfl) rfl rfl rfl ?_
    refine WL_is (X_cap rfl rfl rfl) rfl rfl rfl ?_
    refine WL_is (X_sliceHiG (sz := 2) rfl rfl rfl rfl rfl (by omega)) rfl rfl rfl ?_
    refine WL_is (X_move rfl rfl) rfl rfl rfl ?_
    refine WL_appendMake (m := m) rfl rfl rfl elemX rfl (by omega) (by decide) (by omega) (by omega) rfl rfl rfl ?_
    intro b cap c hc1 hc2
    refine WL_is (X_move rfl rfl) rfl rfl rfl ?_
    refine WL_is (X_len rfl rfl rfl) rfl rfl rfl ?_
    refine WL_is (X_sliceHi (j := 0) rfl rfl rfl rfl rfl (by omega)) rfl rfl rfl ?_
    refine WL_is (X_assign rfl rfl) rfl rfl rfl ?_
    (repeat (first | refine WL_nil ?_ | refine Then_normal ?_ | refine W_seq ?_))
    skip
    refine W_region rfl ?_
    refine WL_is (X_move rfl rfl) rfl rfl rfl ?_
    refine WL_is (X_assign rfl rfl) rfl rfl rfl ?_
    (repeat (first | refine WL_nil ?_ | refine Then_normal ?_ | refine W_ret ?_))
    refine Body_vals (.cons (.tmp rfl) .nil) rfl ?_
    exact UpdE.of (Upd_row0 (enc := encX) (cap := cap) (sz := 2) 0 rfl hc2) rfl
set_option maxHeartbeats 1000000 in
theorem con_fn (h : PH) (v : Value) (L1 L2 L3 : Xs) (a1 a2 a3 : Option Addr) (c1 c2 c3 : Nat) (hv : Sl encS 1 h v [.slice a1 L1.length c1, .slice a2 L2.length c2, .slice a3 L3.length c3])
    (h1 : Sl encX 2 h (.slice a1 L1.length c1) L1) (h2 : Sl encX 2 h (.slice a2 L2.length c2) L2) (h3 : Sl encX 2 h (.slice a3 L3.length c3) L3) (b1 : L1.length ≤ 100000) (b2 : L2.length ≤ 100000) (b3 : L3.length ≤ 100000) :
    Does Try.prog 33 [v] [] h (Ret fun r R' h' => Sl encX 2 h' r (L1 ++ L2 ++ L3) ∧ R' = []) := by
  have hg := grow_fn h (L1.length + L2.length + L3.length) (by omega)
  have hgc : ((L1.length + L2.length + L3.length : Nat) : Int) = 0 + (L1.length : Int) + (L2.length : Int) + (L3.length : Int) := by omega
  rw [hgc] at hg
  obtain ⟨va, vc, e⟩ := hv.shape
  have e : v = .slice va 3 vc := e
  subst e
  obtain ⟨L, hL⟩ : ∃ L : List Value, L = [.slice a1 L1.length c1, .slice a2 L2.length c2, .slice a3 L3.length c3] := ⟨_, rfl⟩
  rw [← hL] at hv
  have k0 : L.length = 3 := by rw [hL]; rfl
  have g0 : L[Int.toNat 0]'(by rw [k0]; decide) = .slice a1 L1.length c1 := by subst hL; rfl
  have g1 : L[Int.toNat 1]'(by rw [k0]; decide) = .slice a2 L2.length c2 := by subst hL; rfl
  have g2 : L[Int.toNat 2]'(by rw [k0]; decide) = .slice a3 L3.length c3 := by subst hL; rfl
  clear hL
  refine Does_of_W Try.func33 rfl (n := 36) rfl rfl (by simp only [argE] <;> rfl) ?_
  (repeat (first | refine W_seq ?_))
  skip
  refine W_region rfl ?_
  refine WL_is (X_assign rfl rfl) rfl rfl rfl ?_
  (repeat (first | refine WL_nil ?_ | refine Then_normal ?_ | refine W_seq ?_))
  skip
  refine W_region rfl ?_
  refine WL_is (X_assign rfl rfl) rfl rfl rfl ?_
  (repeat (first | refine WL_nil ?_ | refine Then_normal ?_ | refine W_seq ?_))
  skip
  refine W_region rfl ?_
  refine WL_is (X_move rfl rfl) rfl rfl rfl ?_
  refine WL_is (X_len_sl rfl rfl rfl (by assumption)) rfl rfl rfl ?_
  refine WL_is (X_move rfl rfl) rfl rfl rfl ?_
  (repeat (first | refine WL_nil ?_ | refine Then_normal ?_ | refine W_block ?_))
  refine W_rounds 4 ?_
  (repeat (first | refine WR_succ ?_ | refine W_seq ?_))
  refine W_region rfl ?_
  refine WL_is (X_lss_t rfl rfl rfl (by omega)) rfl rfl rfl ?_
  (repeat (first | refine WL_nil ?_ | refine Then_normal ?_ | refine W_seq ?_ | refine W_skip ?_ | refine W_block ?_ | refine W_true rfl ?_))
  skip
  refine W_region rfl ?_
  (refine WL_index_sl rfl rfl rfl rfl rfl (by assumption) (by omega) (by omega) rfl rfl rfl ?_; intro p_ hp_)
  refine WL_is (X_load1_at rfl rfl (by assumption) rfl rfl) rfl rfl rfl ?_
  refine WL_is (X_assign rfl rfl) rfl rfl rfl ?_
  (repeat (first | refine WL_nil ?_ | refine Then_normal ?_ | refine W_seq ?_))
  simp only [g0]
  skip
  refine W_region rfl ?_
  refine WL_is (X_move rfl rfl) rfl rfl rfl ?_
  refine WL_is (X_move rfl rfl) rfl rfl rfl ?_
  refine WL_is (X_len_sl rfl rfl rfl (by assumption)) rfl rfl rfl ?_
  refine WL_is (X_addW rfl rfl rfl (by exact wrap_i64_in (by omega) (by omega))) rfl rfl rfl ?_
  refine WL_is (X_assign rfl rfl) rfl rfl rfl ?_
  (repeat (first | refine WL_nil ?_ | refine Then_normal ?_ | refine W_seq ?_))
  skip
  refine W_region rfl ?_
  refine WL_is (X_move rfl rfl) rfl rfl rfl ?_
  refine WL_is (X_lss_f rfl rfl rfl (by omega)) rfl rfl rfl ?_
  (repeat (first | refine WL_nil ?_ | refine Then_normal ?_ | refine W_skip ?_ | refine inBlk_normal ?_ | refine W_false rfl ?_))
  skip
  refine W_region rfl ?_
  refine WL_is (X_addW rfl rfl rfl (by refine wrapL (by simp only [Int.reduceAdd] <;> rfl) ?_; decide)) rfl rfl rfl ?_
  refine WL_is (X_move rfl rfl) rfl rfl rfl ?_
  (repeat (first | refine WL_nil ?_ | refine WR_succ ?_ | refine Then_normal ?_ | refine W_seq ?_))
  skip
  refine W_region rfl ?_
  refine WL_is (X_lss_t rfl rfl rfl (by omega)) rfl rfl rfl ?_
  (repeat (first | refine WL_nil ?_ | refine Then_normal ?_ | refine W_seq ?_ | refine W_skip ?_ | refine W_block ?_ | refine W_true rfl ?_))
  skip
  refine W_region rfl ?_
  (refine WL_index_sl rfl rfl rfl rfl rfl (by assumption) (by omega) (by omega) rfl rfl rfl ?_; intro p_ hp_)
  refine WL_is (X_load1_at rfl rfl (by assumption) rfl rfl) rfl rfl rfl ?_
  refine WL_is (X_assign rfl rfl) rfl rfl rfl ?_
  (repeat (first | refine WL_nil ?_ | refine Then_normal ?_ | refine W_seq ?_))
  simp only [g1]
  skip
  refine W_region rfl ?_
  refine WL_is (X_move rfl rfl) rfl rfl rfl ?_
  refine WL_is (X_move rfl rfl) rfl rfl rfl ?_
  refine WL_is (X_len_sl rfl rfl rfl (by assumption)) rfl rfl rfl ?_
  refine WL_is (X_addW rfl rfl rfl (by exact wrap_i64_in (by omega) (by omega))) rfl rfl rfl ?_
  refine WL_is (X_assign rfl rfl) rfl rfl rfl ?_
  (repeat (first | refine WL_nil ?_ | refine Then_normal ?_ | refine W_seq ?_))
  skip
  refine W_region rfl ?_
  refine WL_is (X_move rfl rfl) rfl rfl rfl ?_
  refine WL_is (X_lss_f rfl rfl rfl (by omega)) rfl rfl rfl ?_
  (repeat (first | refine WL_nil ?_ | refine Then_normal ?_ | refine W_skip ?_ | refine inBlk_normal ?_ | refine W_false rfl ?_))
  skip
  refine W_region rfl ?_
  refine WL_is (X_addW rfl rfl rfl (by refine wrapL (by simp only [Int.reduceAdd] <;> rfl) ?_; decide)) rfl rfl rfl ?_
  refine WL_is (X_move rfl rfl) rfl rfl rfl ?_
  (repeat (first | refine WL_nil ?_ | refine WR_succ ?_ | refine Then_normal ?_ | refine W_seq ?_))
  skip
  refine W_region rfl ?_
  refine WL_is (X_lss_t rfl rfl rfl (by omega)) rfl rfl rfl ?_
  (repeat (first | refine WL_nil ?_ | refine Then_normal ?_ | refine W_seq ?_ | refine W_skip ?_ | refine W_block ?_ | refine W_true rfl ?_))
  skip
  refine W_region rfl ?_
  (refine WL_index_sl rfl rfl rfl rfl rfl (by assumption) (by omega) (by omega) rfl rfl rfl ?_; intro p_ hp_)
  refine WL_is (X_load1_at rfl rfl (by assumption) rfl rfl) rfl rfl rfl ?_
  refine WL_is (X_assign rfl rfl) rfl rfl rfl ?_
  (repeat (first | refine WL_nil ?_ | refine Then_normal ?_ | refine W_seq ?_))
  simp only [g2]
  skip
  refine W_region rfl ?_
  refine WL_is (X_move rfl rfl) rfl rfl rfl ?_
  refine WL_is (X_move rfl rfl) rfl rfl rfl ?_
  refine WL_is (X_len_sl rfl rfl rfl (by assumption)) rfl rfl rfl ?_
  refine WL_is (X_addW rfl rfl rfl (by exact wrap_i64_in (by omega) (by omega))) rfl rfl rfl ?_
  refine WL_is (X_assign rfl rfl) rfl rfl rfl ?_
  (repeat (first | refine WL_nil ?_ | refine Then_normal ?_ | refine W_seq ?_))
  skip
  refine W_region rfl ?_
  refine WL_is (X_move rfl rfl) rfl rfl rfl ?_
  refine WL_is (X_lss_f rfl rfl rfl (by omega)) rfl rfl rfl ?_
  (repeat (first | refine WL_nil ?_ | refine Then_normal ?_ | refine W_skip ?_ | refine inBlk_normal ?_ | refine W_false rfl ?_))
  skip
  refine W_region rfl ?_
  refine WL_is (X_addW rfl rfl rfl (by refine wrapL (by simp only [Int.reduceAdd] <;> rfl) ?_; decide)) rfl rfl rfl ?_
  refine WL_is (X_move rfl rfl) rfl rfl rfl ?_
  (repeat (first | refine WL_nil ?_ | refine WR_succ ?_ | refine Then_normal ?_ | refine W_seq ?_))
  skip
  refine W_region rfl ?_
  refine WL_is (X_lss_f rfl rfl rfl (by omega)) rfl rfl rfl ?_
  (repeat (first | refine WL_nil ?_ | refine Then_normal ?_ | refine W_seq ?_ | refine W_exit ?_ | refine Then_exit ?_ | refine inBlk_here ?_ | refine W_false rfl ?_))
  skip
  refine W_region rfl ?_
  refine WL_is (X_move rfl rfl) rfl rfl rfl ?_
  refine WL_call rfl rfl rfl Try.func42 rfl rfl rfl rfl hg ?_
  rintro v6 _ H1 M1 rfl
  simp only [List.cons_append, List.nil_append]
  replace hv := hv.mono M1
  replace h1 := h1.mono M1
  replace h2 := h2.mono M1
  replace h3 := h3.mono M1
  refine WL_is (X_assign rfl rfl) rfl rfl rfl ?_
  (repeat (first | refine WL_nil ?_ | refine Then_normal ?_ | refine W_seq ?_))
  skip
  refine W_region rfl ?_
  refine WL_is (X_move rfl rfl) rfl rfl rfl ?_
  refine WL_is (X_len_sl rfl rfl rfl (by assumption)) rfl rfl rfl ?_
  refine WL_is (X_move rfl rfl) rfl rfl rfl ?_
  (repeat (first | refine WL_nil ?_ | refine Then_normal ?_ | refine W_block ?_))
  refine W_rounds 4 ?_
  (repeat (first | refine WR_succ ?_ | refine W_seq ?_))
  refine W_region rfl ?_
  refine WL_is (X_lss_t rfl rfl rfl (by omega)) rfl rfl rfl ?_
  (repeat (first | refine WL_nil ?_ | refine Then_normal ?_ | refine W_seq ?_ | refine W_skip ?_ | refine W_block ?_ | refine W_true rfl ?_))
  skip
  refine W_region rfl ?_
  (refine WL_index_sl rfl rfl rfl rfl rfl (by assumption) (by omega) (by omega) rfl rfl rfl ?_; intro p_ hp_)
  refine WL_is (X_load1_at rfl rfl (by assumption) rfl rfl) rfl rfl rfl ?_
  refine WL_is (X_assign rfl rfl) rfl rfl rfl ?_
  (repeat (first | refine WL_nil ?_ | refine Then_normal ?_))
  simp only [g0]
  skip
  refine W_region rfl ?_
  refine WL_is (X_move rfl rfl) rfl rfl rfl ?_
  refine WL_is (X_move rfl rfl) rfl rfl rfl ?_
  refine WL_append (enc := encX) (L := []) (L' := L1) (i := 0) rfl rfl rfl elemX rfl rfl (Src.sl h1) (flatX _) (by simp; omega) (by simp; omega) rfl rfl rfl ?_
  intro v7
  simp only [List.set_cons_zero, List.nil_append]
  refine WL_is (X_assign rfl rfl) rfl rfl rfl ?_
  (repeat (first | refine WL_nil ?_ | refine Then_normal ?_ | refine inBlk_normal ?_))
  skip
  refine W_region rfl ?_
  refine WL_is (X_addW rfl rfl rfl (by refine wrapL (by simp only [Int.reduceAdd] <;> rfl) ?_; decide)) rfl rfl rfl ?_
  refine WL_is (X_move rfl rfl) rfl rfl rfl ?_
  (repeat (first | refine WL_nil ?_ | refine WR_succ ?_ | refine Then_normal ?_ | refine W_seq ?_))
  skip
  refine W_region rfl ?_
  refine WL_is (X_lss_t rfl rfl rfl (by omega)) rfl rfl rfl ?_
  (repeat (first | refine WL_nil ?_ | refine Then_normal ?_ | refine W_seq ?_ | refine W_skip ?_ | refine W_block ?_ | refine W_true rfl ?_))
  skip
  refine W_region rfl ?_
  (refine WL_index_sl rfl rfl rfl rfl rfl (by assumption) (by omega) (by omega) rfl rfl rfl ?_; intro p_ hp_)
  refine WL_is (X_load1_at rfl rfl (by assumption) rfl rfl) rfl rfl rfl ?_
  refine WL_is (X_assign rfl rfl) rfl rfl rfl ?_
  (repeat (first | refine WL_nil ?_ | refine Then_normal ?_))
  simp only [g1]
  skip
  refine W_region rfl ?_
  refine WL_is (X_move rfl rfl) rfl rfl rfl ?_
  refine WL_is (X_move rfl rfl) rfl rfl rfl ?_
  refine WL_append (enc := encX) (L := L1) (L' := L2) (i := 0) rfl rfl rfl elemX rfl rfl (Src.sl h2) (flatX _) (by omega) (by omega) rfl rfl rfl ?_
  intro v8
  simp only [List.set_cons_zero]
  refine WL_is (X_assign rfl rfl) rfl rfl rfl ?_
  (repeat (first | refine WL_nil ?_ | refine Then_normal ?_ | refine inBlk_normal ?_))
  skip
  refine W_region rfl ?_
  refine WL_is (X_addW rfl rfl rfl (by refine wrapL (by simp only [Int.reduceAdd] <;> rfl) ?_; decide)) rfl rfl rfl ?_
  refine WL_is (X_move rfl rfl) rfl rfl rfl ?_
  (repeat (first | refine WL_nil ?_ | refine WR_succ ?_ | refine Then_normal ?_ | refine W_seq ?_))
  skip
  refine W_region rfl ?_
  refine WL_is (X_lss_t rfl rfl rfl (by omega)) rfl rfl rfl ?_
  (repeat (first | refine WL_nil ?_ | refine Then_normal ?_ | refine W_seq ?_ | refine W_skip ?_ | refine W_block ?_ | refine W_true rfl ?_))
  skip
  refine W_region rfl ?_
  (refine WL_index_sl rfl rfl rfl rfl rfl (by assumption) (by omega) (by omega) rfl rfl rfl ?_; intro p_ hp_)
  refine WL_is (X_load1_at rfl rfl (by assumption) rfl rfl) rfl rfl rfl ?_
  refine WL_is (X_assign rfl rfl) rfl rfl rfl ?_
  (repeat (first | refine WL_nil ?_ | refine Then_normal ?_))
  simp only [g2]
  skip
  refine W_region rfl ?_
  refine WL_is (X_move rfl rfl) rfl rfl rfl ?_
  refine WL_is (X_move rfl rfl) rfl rfl rfl ?_
  refine WL_append (enc := encX) (L := L1 ++ L2) (L' := L3) (i := 0) rfl rfl rfl elemX rfl rfl (Src.sl h3) (flatX _) (by rw [List.length_append]; omega) (by rw [List.length_append]; omega) rfl rfl rfl ?_
  intro v9
  simp only [List.set_cons_zero]
  refine WL_is (X_assign rfl rfl) rfl rfl rfl ?_
  (repeat (first | refine WL_nil ?_ | refine Then_normal ?_ | refine inBlk_normal ?_))
  skip
  refine W_region rfl ?_
  refine WL_is (X_addW rfl rfl rfl (by refine wrapL (by simp only [Int.reduceAdd] <;> rfl) ?_; decide)) rfl rfl rfl ?_
  refine WL_is (X_move rfl rfl) rfl rfl rfl ?_
  (repeat (first | refine WL_nil ?_ | refine WR_succ ?_ | refine Then_normal ?_ | refine W_seq ?_))
  skip
  refine W_region rfl ?_
  refine WL_is (X_lss_f rfl rfl rfl (by omega)) rfl rfl rfl ?_
  (repeat (first | refine WL_nil ?_ | refine Then_normal ?_ | refine W_seq ?_ | refine W_exit ?_ | refine Then_exit ?_ | refine inBlk_here ?_ | refine W_false rfl ?_))
  skip
  refine W_region rfl ?_
  refine WL_is (X_move rfl rfl) rfl rfl rfl ?_
  refine WL_is (X_assign rfl rfl) rfl rfl rfl ?_
  (repeat (first | refine WL_nil ?_ | refine Then_normal ?_ | refine W_ret ?_))
  refine Body_vals (.cons (.tmp rfl) .nil) rfl ?_
  refine (UpdE.row (enc := encX) 0 rfl (lenX _)).mono ?_
  rintro _ H2 - ⟨rfl, hs⟩
  exact ⟨hs, rfl⟩
/-- A list with a piece of it laid anew. -/
theorem with_fn (h : PH) (v u : Value) (l q : Xs) (f t : Nat) (hv : Sl encX 2 h v l) (hu : Sl encX 2 h u q) (hl : l.length ≤ 100000) (hq : q.length ≤ 100000) (hf : f ≤ l.length) (ht : t ≤ l.length) :
    Does Try.prog 24 [v, .int .i64 (f : Int), .int .i64 (t : Int), u] [] h (Ret fun r R' h' => Sl encX 2 h' r (l.take f ++ q ++ l.drop t) ∧ R' = []) := by
  obtain ⟨va, vc, rfl⟩ := hv.shape
  obtain ⟨ua, uc, rfl⟩ := hu.shape
  have hcap := hv.capLe
  have h1 := hv.room hf
  have h3 := hv.from ht
  have e1 : (l.take f).length = f := by simp; omega
  have e3 : (l.drop t).length = l.length - t := by simp
  refine Does_of_W Try.func24 rfl (n := 19) rfl rfl (by simp only [argE, Nat.reduceAdd] <;> rfl) ?_
  (repeat (first | refine W_seq ?_))
  refine W_region rfl ?_
  refine WL_is (X_assign rfl rfl) rfl rfl rfl ?_
  (repeat (first | refine WL_nil ?_ | refine Then_normal ?_ | refine W_seq ?_))
  skip
  refine W_draw0 8 rfl rfl rfl rfl ?_
  refine RG_val rfl rfl (fun _ => rfl) (fun _ => X_move rfl rfl) ?_
  refine RG_val rfl rfl (fun _ => rfl) (fun _ => X_move rfl rfl) ?_
  refine RG_val rfl rfl (fun _ => rfl) (fun _ => X_move rfl rfl) ?_
  refine RG_val rfl rfl (fun _ => rfl) (fun _ => X_slice3 (sz := 2) rfl rfl rfl rfl rfl rfl (by omega)) ?_
  refine RG_val rfl rfl (fun _ => rfl) (fun _ => X_move rfl rfl) ?_
  refine RG_val rfl rfl (fun _ => rfl) (fun _ => X_move rfl rfl) ?_
  refine RG_val rfl rfl (fun _ => rfl) (fun _ => X_move rfl rfl) ?_
  refine RG_val rfl rfl (fun _ => rfl) (fun _ => X_sliceLoG (sz := 2) rfl rfl rfl rfl rfl ht) ?_
  refine RG_nil ?_
  refine RG_endv rfl (fun vs => by simp only [endE, List.cons_append, List.nil_append] <;> rfl) (fun vs => rfl) ?_
  generalize (if f = 0 then va else va.map (·.add (0 * 2))) = a1 at *
  generalize (if vc = t then va else va.map (·.add (t * 2))) = a3 at *
  refine WL_buildSl (enc := encS) [.slice a1 f f, .slice ua q.length uc, .slice a3 (l.length - t) (vc - t)] (lenS _) rfl rfl rfl rfl rfl rfl rfl rfl rfl rfl rfl rfl rfl rfl rfl ?_
  intro w H1 M1 hw
  have hc := con_fn H1 w (l.take f) q (l.drop t) a1 ua a3 f uc (vc - t) (by rw [e1, e3]; exact hw) (by rw [e1]; exact h1.mono M1) (hu.mono M1) (by rw [e3]; exact h3.mono M1) (by omega) hq (by omega)
  refine WL_call rfl rfl rfl Try.func33 rfl rfl rfl rfl hc ?_
  rintro v6 _ H2 M2 ⟨hs, rfl⟩
  simp only [List.nil_append]
  refine WL_is (X_assign rfl rfl) rfl rfl rfl ?_
  (repeat (first | refine WL_nil ?_ | refine Then_normal ?_ | refine W_ret ?_))
  refine Body_vals (.cons (.tmp rfl) .nil) rfl ?_
  exact UpdE.of (Upd.refl _ _) ⟨hs, rfl⟩
end Go.Proofs.Ytakdjabamjgcfaa
