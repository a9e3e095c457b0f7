/- Open files: the document's table. -/
import Derived.Test.YtmicilnmphkpmaaDescE
namespace Go.Proofs.Ytmicilnmphkpmaa
open Go Go.Par PH
instance decF : Dec encF 6 where
  len _ := rfl
  dec c := match c with
    | [.bool a, .int .i64 b, .int .u32 c, .bool d, .int .u8 e, .int .i64 f] => some ⟨a, b, c, d, e, f⟩
    | _ => none
  ok c x h := by
    revert h
    split
    · intro h; cases h; rfl
    · intro h; cases h
def intv (k : Nat) : Value := .int .i64 (k : Int)
def rblk (b : Nat) (v : Value) (fds : List Nat) : SL := blk b (v :: fds.map intv) 30
/-- The document's table. -/
def refR (b : Nat) (s : DS) : SL := fun g => ∃ v, stars [rblk b v s.fds, rowL encF v 33 6 s.all] g
theorem UpdE.ref {R : List SL} {h : PH} {b : Nat} {s : DS} (i : Nat) (hi : R[i]? = some (refR b s)) : UpdE R h fun R' h' => h' = h ∧ ∃ v, R' = rblk b v s.fds :: rowL encF v 33 6 s.all :: R.eraseIdx i :=
  UpdE.wkn fun g hg => by
    obtain ⟨a, c, e, hd, ⟨v, a1, a2, e2, hd2, h1, a3, a4, e3, hd3, h2, h3⟩, hc⟩ := stars_perm (perm_front i hi) hg
    have h3 : a4 = none_ := h3
    subst h3; subst e3
    rw [un_none_right] at e2 hd2
    subst e2
    have hd' := dj_un_left.1 hd
    exact ⟨_, ⟨v, rfl⟩, a1, un a3 c, by rw [e, un_assoc], dj_un_right.2 ⟨hd2, hd'.1⟩, h1, a3, c, rfl, hd'.2, h2, hc⟩
theorem Upd.ref {R : List SL} {h : PH} {b : Nat} {s : DS} {v : Value} : Go.Par.Upd (rblk b v s.fds :: rowL encF v 33 6 s.all :: R) h (refR b s :: R) h := Upd.wkn fun g hg => by
  obtain ⟨a, c, e, hd, ha, c1, c2, e2, hd2, h1, h2⟩ := hg
  subst e2
  have hd' := dj_un_right.1 hd
  exact ⟨un a c1, c2, by rw [e, un_assoc], dj_un_left.2 ⟨hd'.2, hd2⟩, ⟨v, a, c1, rfl, hd'.1, ha, c1, none_, (un_none_right _).symm, dj_none_right _, h1, rfl⟩, h2⟩
theorem rcell_at {v : Value} {fds : List Nat} {k : Nat} (hk : k < fds.length) : (v :: fds.map intv)[1 + k]? = some (.int .i64 (fds[k] : Int)) := by
  rw [Nat.add_comm, List.getElem?_cons_succ]; simp [hk, intv]
theorem rcell_set {v : Value} {fds : List Nat} (i k : Nat) : (v :: fds.map intv).set (1 + i) (.int .i64 (k : Int)) = v :: (fds.set i k).map intv := by
  rw [Nat.add_comm, List.set_cons_succ, List.map_set]; rfl
attribute [local irreducible] W WL Does Exec Body Then inBlk RG WR row obj pblk
set_option maxHeartbeats 1000000 in
theorem freeR_fn (h : PH) (b : Nat) (v : Value) (fds : List Nat) (hl : fds.length = 8) : Does Try.prog 23 [.pointer (some ⟨b, 0, none⟩)] [rblk b v fds] h
    (Ret fun r R' _ => r = .int .i64 (if least fds < 8 then (least fds : Int) else -1) ∧ R' = [rblk b v fds]) := by
  unfold rblk
  refine Does_of_W Try.func23 rfl (n := 16) rfl rfl (by simp only [argE] <;> rfl) ?_
  (repeat (first | refine W_seq ?_))
  skip
  refine W_region rfl ?_
  refine WL_is (X_assign rfl rfl) rfl rfl rfl ?_
  (repeat (first | refine WL_nil ?_ | refine Then_normal ?_ | refine W_seq ?_))
  skip
  refine W_region rfl ?_
  refine WL_is (X_assign rfl rfl) rfl rfl rfl ?_
  (repeat (first | refine WL_nil ?_ | refine Then_normal ?_ | refine W_block ?_))
  refine W_loop (X := Nat) (L := fun k => ⟨[(3, .int .i64 (k : Int)), (0, .pointer (some ⟨b, 0, none⟩))], [], [blk b (v :: fds.map intv) 30], h⟩) (p := fun k => k ≤ 8 ∧ ∀ j (hj : j < k) (hj' : j < fds.length), fds[j] ≠ 0) (μ := fun k => 8 - k) 0 ⟨(by repeat (first | exact SubE_nil | refine SubE_cons rfl ?_)), rfl, SubR.refl _, rfl⟩ ⟨by omega, fun j hj => by omega⟩ ?_
  rintro k ⟨hk, hgood⟩
  by_cases hlt : k < 8
  · have hk' : k < fds.length := by omega
    have hv := rcell_at (v := v) hk'
    by_cases h0 : fds[k] = 0
    · rw [h0] at hv
      have hle := least_eq hk' h0 (fun j hj => hgood j hj (by omega))
      (repeat (first | refine W_seq ?_))
      refine W_region rfl ?_
      refine WL_is (X_move rfl rfl) rfl rfl rfl ?_
      refine WL_is (X_lss_t rfl rfl rfl (by omega)) rfl rfl rfl ?_
      (repeat (first | refine WL_nil ?_ | refine Then_normal ?_ | refine W_seq ?_ | refine W_skip ?_ | refine W_block ?_ | refine W_true rfl ?_))
      skip
      refine W_region rfl ?_
      refine WL_is (X_move rfl rfl) rfl rfl rfl ?_
      refine WL_is (X_move rfl rfl) rfl rfl rfl ?_
      refine WL_is (X_nilCheck rfl rfl) rfl rfl rfl ?_
      refine WL_is (X_fieldAddr rfl rfl rfl (by simp only [Nat.zero_add] <;> rfl)) rfl rfl rfl ?_
      refine WL_is (X_index_arr (sz := 1) rfl rfl rfl rfl rfl (by omega) (by omega) (by simp only [Int.toNat_natCast, Nat.mul_one] <;> rfl)) rfl rfl rfl ?_
      refine WL_is (X_load1 rfl rfl (by exact idx0) rfl (by assumption)) rfl rfl rfl ?_
      refine WL_is (X_eql_t rfl rfl rfl (by omega)) rfl rfl rfl ?_
      (repeat (first | refine WL_nil ?_ | refine Then_normal ?_ | refine W_seq ?_ | refine W_true rfl ?_))
      skip
      refine W_region rfl ?_
      refine WL_is (X_move rfl rfl) rfl rfl rfl ?_
      refine WL_is (X_assign rfl rfl) rfl rfl rfl ?_
      (repeat (first | refine WL_nil ?_ | refine Then_normal ?_ | refine W_ret ?_ | refine Then_ret ?_ | refine inBlk_ret ?_))
      refine Body_end rfl rfl rfl (SubR.refl _) ?_
      rw [hle, if_pos hlt]
      exact ⟨rfl, rfl⟩
    · (repeat (first | refine W_seq ?_))
      refine W_region rfl ?_
      refine WL_is (X_move rfl rfl) rfl rfl rfl ?_
      refine WL_is (X_lss_t rfl rfl rfl (by omega)) rfl rfl rfl ?_
      (repeat (first | refine WL_nil ?_ | refine Then_normal ?_ | refine W_seq ?_ | refine W_skip ?_ | refine W_block ?_ | refine W_true rfl ?_))
      skip
      refine W_region rfl ?_
      refine WL_is (X_move rfl rfl) rfl rfl rfl ?_
      refine WL_is (X_move rfl rfl) rfl rfl rfl ?_
      refine WL_is (X_nilCheck rfl rfl) rfl rfl rfl ?_
      refine WL_is (X_fieldAddr rfl rfl rfl (by simp only [Nat.zero_add] <;> rfl)) rfl rfl rfl ?_
      refine WL_is (X_index_arr (sz := 1) rfl rfl rfl rfl rfl (by omega) (by omega) (by simp only [Int.toNat_natCast, Nat.mul_one] <;> rfl)) rfl rfl rfl ?_
      refine WL_is (X_load1 rfl rfl (by exact idx0) rfl (by assumption)) rfl rfl rfl ?_
      refine WL_is (X_eql_f rfl rfl rfl (by omega)) rfl rfl rfl ?_
      (repeat (first | refine WL_nil ?_ | refine Then_normal ?_ | refine W_skip ?_ | refine inBlk_normal ?_ | refine W_false rfl ?_))
      skip
      refine W_region rfl ?_
      refine WL_is (X_move rfl rfl) rfl rfl rfl ?_
      refine WL_is (X_addW rfl rfl rfl (by exact wrap_i64_in (by omega) (by omega))) rfl rfl rfl ?_
      refine WL_is (X_assign rfl rfl) rfl rfl rfl ?_
      (repeat (first | refine WL_nil ?_ | refine Then_normal ?_))
      refine ⟨k + 1, ⟨(by repeat (first | exact SubE_nil | refine SubE_cons rfl ?_)), rfl, SubR.refl _, rfl⟩, ⟨by omega, fun j hj hj' => ?_⟩, by omega⟩
      rcases Nat.lt_or_ge j k with h1 | h1
      · exact hgood j h1 hj'
      · have : j = k := by omega
        subst this; exact h0
  · have hk8 : k = 8 := by omega
    subst hk8
    (repeat (first | refine W_seq ?_))
    refine W_region rfl ?_
    refine WL_is (X_move rfl rfl) rfl rfl rfl ?_
    refine WL_is (X_lss_f rfl rfl rfl (by omega)) rfl rfl rfl ?_
    (repeat (first | refine WL_nil ?_ | refine Then_normal ?_ | refine W_seq ?_ | refine W_exit ?_ | refine Then_exit ?_ | refine inBlk_here ?_ | refine W_false rfl ?_))
    skip
    refine W_region rfl ?_
    refine WL_is (X_assign rfl rfl) rfl rfl rfl ?_
    (repeat (first | refine WL_nil ?_ | refine Then_normal ?_ | refine W_ret ?_))
    refine Body_end rfl rfl rfl (SubR.refl _) ?_
    have := least_none (fds := fds) (fun j hj => hgood j (by omega) hj)
    rw [this, if_neg (by omega)]
    exact ⟨rfl, rfl⟩
set_option maxHeartbeats 1000000 in
theorem isR_fn (h : PH) (b : Nat) (v : Value) (fds : List Nat) (fd : Int) (hl : fds.length = 8) : Does Try.prog 25 [.pointer (some ⟨b, 0, none⟩), .int .i64 fd] [rblk b v fds] h
    (Ret fun r R' _ => r = .bool (!decide (atF fds fd = 0)) ∧ R' = [rblk b v fds]) := by
  unfold rblk
  refine Does_of_W Try.func25 rfl (n := 20) rfl rfl (by simp only [argE, Nat.reduceAdd] <;> rfl) ?_
  by_cases h1 : 0 ≤ fd
  · by_cases h2 : fd < 8
    · obtain ⟨k, rfl⟩ : ∃ k : Nat, fd = (k : Int) := ⟨fd.toNat, by omega⟩
      have hk : k < fds.length := by omega
      have hv := rcell_at (v := v) hk
      have ha : atF fds (k : Int) = fds[k] := by unfold atF; rw [if_pos ⟨h1, h2⟩]; simp [hk]
      rw [ha]
      by_cases h0 : fds[k] = 0
      · rw [h0] at hv ⊢
        (repeat (first | refine W_seq ?_))
        skip
        refine W_region rfl ?_
        refine WL_is (X_assign rfl rfl) rfl rfl rfl ?_
        (repeat (first | refine WL_nil ?_ | refine Then_normal ?_ | refine W_seq ?_))
        skip
        refine W_region rfl ?_
        refine WL_is (X_move rfl rfl) rfl rfl rfl ?_
        refine WL_is (X_geq_t rfl rfl rfl (by omega)) rfl rfl rfl ?_
        refine WL_is (X_move rfl rfl) rfl rfl rfl ?_
        refine WL_is (X_move rfl rfl) rfl rfl rfl ?_
        refine WL_is (X_lss_t rfl rfl rfl (by omega)) rfl rfl rfl ?_
        refine WL_is (X_pick_t rfl rfl rfl) rfl rfl rfl ?_
        refine WL_is (X_move rfl rfl) rfl rfl rfl ?_
        refine WL_is (X_move rfl rfl) rfl rfl rfl ?_
        refine WL_is (X_move rfl rfl) rfl rfl rfl ?_
        refine WL_is (X_nilCheck rfl rfl) rfl rfl rfl ?_
        refine WL_is (X_fieldAddr rfl rfl rfl (by simp only [Nat.zero_add] <;> rfl)) rfl rfl rfl ?_
        refine WL_is (X_index_arr (sz := 1) rfl rfl rfl rfl rfl (by omega) (by omega) (by simp only [Int.toNat_natCast, Nat.mul_one] <;> rfl)) rfl rfl rfl ?_
        refine WL_is (X_load1 rfl rfl (by exact idx0) rfl (by assumption)) rfl rfl rfl ?_
        refine WL_is (X_gtr_f rfl rfl rfl (by omega)) rfl rfl rfl ?_
        refine WL_is (X_pick_t rfl rfl rfl) rfl rfl rfl ?_
        refine WL_is (X_assign rfl rfl) rfl rfl rfl ?_
        (repeat (first | refine WL_nil ?_ | refine Then_normal ?_ | refine W_ret ?_))
        refine Body_end rfl rfl rfl (SubR.refl _) ⟨rfl, rfl⟩
      · rw [decide_eq_false h0]
        (repeat (first | refine W_seq ?_))
        skip
        refine W_region rfl ?_
        refine WL_is (X_assign rfl rfl) rfl rfl rfl ?_
        (repeat (first | refine WL_nil ?_ | refine Then_normal ?_ | refine W_seq ?_))
        skip
        refine W_region rfl ?_
        refine WL_is (X_move rfl rfl) rfl rfl rfl ?_
        refine WL_is (X_geq_t rfl rfl rfl (by omega)) rfl rfl rfl ?_
        refine WL_is (X_move rfl rfl) rfl rfl rfl ?_
        refine WL_is (X_move rfl rfl) rfl rfl rfl ?_
        refine WL_is (X_lss_t rfl rfl rfl (by omega)) rfl rfl rfl ?_
        refine WL_is (X_pick_t rfl rfl rfl) rfl rfl rfl ?_
        refine WL_is (X_move rfl rfl) rfl rfl rfl ?_
        refine WL_is (X_move rfl rfl) rfl rfl rfl ?_
        refine WL_is (X_move rfl rfl) rfl rfl rfl ?_
        refine WL_is (X_nilCheck rfl rfl) rfl rfl rfl ?_
        refine WL_is (X_fieldAddr rfl rfl rfl (by simp only [Nat.zero_add] <;> rfl)) rfl rfl rfl ?_
        refine WL_is (X_index_arr (sz := 1) rfl rfl rfl rfl rfl (by omega) (by omega) (by simp only [Int.toNat_natCast, Nat.mul_one] <;> rfl)) rfl rfl rfl ?_
        refine WL_is (X_load1 rfl rfl (by exact idx0) rfl (by assumption)) rfl rfl rfl ?_
        refine WL_is (X_gtr_t rfl rfl rfl (by omega)) rfl rfl rfl ?_
        refine WL_is (X_pick_t rfl rfl rfl) rfl rfl rfl ?_
        refine WL_is (X_assign rfl rfl) rfl rfl rfl ?_
        (repeat (first | refine WL_nil ?_ | refine Then_normal ?_ | refine W_ret ?_))
        refine Body_end rfl rfl rfl (SubR.refl _) ⟨rfl, rfl⟩
    · have ha : atF fds fd = 0 := by unfold atF; rw [if_neg (by omega)]
      rw [ha]
      (repeat (first | refine W_seq ?_))
      skip
      refine W_region rfl ?_
      refine WL_is (X_assign rfl rfl) rfl rfl rfl ?_
      (repeat (first | refine WL_nil ?_ | refine Then_normal ?_ | refine W_seq ?_))
      skip
      refine W_region rfl ?_
      refine WL_is (X_move rfl rfl) rfl rfl rfl ?_
      refine WL_is (X_geq_t rfl rfl rfl (by omega)) rfl rfl rfl ?_
      refine WL_is (X_move rfl rfl) rfl rfl rfl ?_
      refine WL_is (X_move rfl rfl) rfl rfl rfl ?_
      refine WL_is (X_lss_f rfl rfl rfl (by omega)) rfl rfl rfl ?_
      refine WL_is (X_pick_t rfl rfl rfl) rfl rfl rfl ?_
      refine WL_is (X_move rfl rfl) rfl rfl rfl ?_
      refine WL_off rfl rfl rfl ?_
      refine WL_off rfl rfl rfl ?_
      refine WL_off rfl rfl rfl ?_
      refine WL_off rfl rfl rfl ?_
      refine WL_off rfl rfl rfl ?_
      refine WL_off rfl rfl rfl ?_
      refine WL_off rfl rfl rfl ?_
      refine WL_is (X_pick_f rfl rfl rfl) rfl rfl rfl ?_
      refine WL_is (X_assign rfl rfl) rfl rfl rfl ?_
      (repeat (first | refine WL_nil ?_ | refine Then_normal ?_ | refine W_ret ?_))
      refine Body_end rfl rfl rfl (SubR.refl _) ⟨rfl, rfl⟩
  · have ha : atF fds fd = 0 := by unfold atF; rw [if_neg (by omega)]
    rw [ha]
    (repeat (first | refine W_seq ?_))
    skip
    refine W_region rfl ?_
    refine WL_is (X_assign rfl rfl) rfl rfl rfl ?_
    (repeat (first | refine WL_nil ?_ | refine Then_normal ?_ | refine W_seq ?_))
    skip
    refine W_region rfl ?_
    refine WL_is (X_move rfl rfl) rfl rfl rfl ?_
    refine WL_is (X_geq_f rfl rfl rfl (by omega)) rfl rfl rfl ?_
    refine WL_is (X_move rfl rfl) rfl rfl rfl ?_
    refine WL_off rfl rfl rfl ?_
    refine WL_off rfl rfl rfl ?_
    refine WL_is (X_pick_f rfl rfl rfl) rfl rfl rfl ?_
    refine WL_is (X_move rfl rfl) rfl rfl rfl ?_
    refine WL_off rfl rfl rfl ?_
    refine WL_off rfl rfl rfl ?_
    refine WL_off rfl rfl rfl ?_
    refine WL_off rfl rfl rfl ?_
    refine WL_off rfl rfl rfl ?_
    refine WL_off rfl rfl rfl ?_
    refine WL_off rfl rfl rfl ?_
    refine WL_is (X_pick_f rfl rfl rfl) rfl rfl rfl ?_
    refine WL_is (X_assign rfl rfl) rfl rfl rfl ?_
    (repeat (first | refine WL_nil ?_ | refine Then_normal ?_ | refine W_ret ?_))
    refine Body_end rfl rfl rfl (SubR.refl _) ⟨rfl, rfl⟩
end Go.Proofs.Ytmicilnmphkpmaa
