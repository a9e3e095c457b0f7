/- Open files: the state, what a table has of it, and the functions that look a number up. -/
import Derived.Test.YtmicilnmphkpmaaProg
import Derived.Test.YtmicilnmphkpmaaEngC
import Derived.KernelRfl
namespace Go.Proofs.Ytmicilnmphkpmaa
open Go Go.Par PH
def heldTs : List Nat := [33]
theorem heldOk : heldTs.all (fun t => !Try.prog.stoodInHeld t) = true := by kernel_rfl
theorem guardOk : heldTs.all (fun t => !Try.prog.eqGuardType Try.prog.depth t) = true := by kernel_rfl
structure FileD where
  hi : Bool
  ino : Int
  gen : Int
  dir : Bool
  fl : Int
  off : Int
deriving DecidableEq
def encF (f : FileD) : List Value := [.bool f.hi, .int .i64 f.ino, .int .u32 f.gen, .bool f.dir, .int .u8 f.fl, .int .i64 f.off]
def fileV (f : FileD) : Value := .agg #[.bool f.hi, .int .i64 f.ino, .int .u32 f.gen, .bool f.dir, .int .u8 f.fl, .int .i64 f.off]
/-- All that was opened; of each number which of it it has, counted from 1 on. -/
structure DS where
  all : List FileD
  fds : List Nat
structure DS.Ok (s : DS) : Prop where
  len : s.fds.length = 8
  le : ∀ k ∈ s.fds, k ≤ s.all.length
/-- Where the open files stand. -/
abbrev FL := List (Nat × FileD)
def ptr (L : FL) : Nat → Value
  | 0 => .pointer none
  | k + 1 => .pointer ((L[k]?).map fun p => ⟨p.1, 0, none⟩)
theorem ptr_pos {L : FL} {k : Nat} (h0 : 0 < k) (h1 : k ≤ L.length) : ∃ j, ∃ hj : j < L.length, k = j + 1 ∧ ptr L k = .pointer (some ⟨(L[j]).1, 0, none⟩) := by
  obtain ⟨j, rfl⟩ : ∃ j, k = j + 1 := ⟨k - 1, by omega⟩
  have hj : j < L.length := by omega
  exact ⟨j, hj, rfl, by simp [ptr, List.getElem?_eq_getElem hj]⟩
def fblk (p : Nat × FileD) : SL := blk p.1 (encF p.2) 33
def filesR (L : FL) : SL := fun g => stars (L.map fblk) g
def tblk (b : Nat) (L : FL) (fds : List Nat) : SL := blk b (fds.map (ptr L)) 56

theorem files_in {L : FL} {g : PH} (h : stars (L.map fblk) g) : ∀ p ∈ L, g p.1 = some (.cells (encF p.2).toArray 33 (0, 0)) := by
  induction L generalizing g with
  | nil => simp
  | cons x L ih =>
    obtain ⟨a, c, rfl, hd, ha, hc⟩ := h
    have ha : a = one x.1 (.cells (encF x.2).toArray 33 (0, 0)) := ha
    intro p hp
    simp only [List.mem_cons] at hp
    rcases hp with rfl | hp
    · exact le_un_left _ _ _ _ (by rw [ha]; simp [one])
    · exact le_un_right hd _ _ (ih hc p hp)
theorem files_nodup {L : FL} {g : PH} (h : stars (L.map fblk) g) : (L.map (·.1)).Nodup := by
  induction L generalizing g with
  | nil => simp
  | cons x L ih =>
    obtain ⟨a, c, rfl, hd, ha, hc⟩ := h
    have ha : a = one x.1 (.cells (encF x.2).toArray 33 (0, 0)) := ha
    simp only [List.map_cons, List.nodup_cons]
    refine ⟨fun hm => ?_, ih hc⟩
    simp only [List.mem_map] at hm
    obtain ⟨p, hp, e⟩ := hm
    have h1 := files_in hc p hp
    rcases hd x.1 with h2 | h2
    · rw [ha] at h2; simp [one] at h2
    · rw [← e] at h2; rw [h1] at h2; cases h2
/-- One of the open files, taken out. -/
theorem Upd.take {R : List SL} {h : PH} {L : FL} (i k : Nat) (hi : R[i]? = some (filesR L)) (hk : k < L.length) : Go.Par.Upd R h (fblk L[k] :: filesR (L.eraseIdx k) :: R.eraseIdx i) h := Upd.wkn fun g hg => by
  obtain ⟨a, c, e, hd, ha, hc⟩ := stars_perm (perm_front i hi) hg
  have ha : stars (L.map fblk) a := ha
  have hp : (L.map fblk).Perm (fblk L[k] :: (L.eraseIdx k).map fblk) := by
    have := perm_front k (List.getElem?_eq_getElem hk)
    exact this.map fblk
  obtain ⟨a1, a2, e2, hd2, h1, h2⟩ := stars_perm hp ha
  subst e2
  have hd' := dj_un_left.1 hd
  refine ⟨a1, un a2 c, by rw [e, un_assoc], dj_un_right.2 ⟨hd2, hd'.1⟩, h1, a2, c, rfl, hd'.2, h2, hc⟩
/-- And put back. -/
theorem Upd.put {R : List SL} {h : PH} {L : FL} {b : Nat} {f : FileD} (k : Nat) (hk : k < L.length) (hb : b = (L[k]).1) : Go.Par.Upd (blk b (encF f) 33 :: filesR (L.eraseIdx k) :: R) h (filesR (L.set k (b, f)) :: R) h := Upd.wkn fun g hg => by
  obtain ⟨a, c, e, hd, ha, c1, c2, e2, hd2, h1, h2⟩ := hg
  subst e2
  have hp : ((L.set k (b, f)).map fblk).Perm (fblk (b, f) :: (L.eraseIdx k).map fblk) := by
    have h1 : (L.set k (b, f))[k]? = some (b, f) := by rw [List.getElem?_set_self (by simpa using hk)]
    have := perm_front k h1
    have e3 : (L.set k (b, f)).eraseIdx k = L.eraseIdx k := by
      apply List.ext_getElem?
      intro j
      simp only [List.getElem?_eraseIdx]
      split
      · rw [List.getElem?_set_ne (by omega)]
      · rw [List.getElem?_set_ne (by omega)]
    rw [e3] at this
    exact this.map fblk
  have hd' := dj_un_right.1 hd
  refine ⟨un a c1, c2, by rw [e, un_assoc], dj_un_left.2 ⟨hd'.2, hd2⟩, ?_, h2⟩
  exact stars_perm hp.symm ⟨a, c1, rfl, hd'.1, ha, h1⟩
/-- One more. -/
theorem Upd.grow {R : List SL} {h : PH} {L : FL} {b : Nat} {f : FileD} : Go.Par.Upd (blk b (encF f) 33 :: filesR L :: R) h (filesR (L ++ [(b, f)]) :: R) h := Upd.wkn fun g hg => by
  obtain ⟨a, c, e, hd, ha, c1, c2, e2, hd2, h1, h2⟩ := hg
  subst e2
  have hd' := dj_un_right.1 hd
  refine ⟨un a c1, c2, by rw [e, un_assoc], dj_un_left.2 ⟨hd'.2, hd2⟩, ?_, h2⟩
  have hp : ((L ++ [(b, f)]).map fblk).Perm (fblk (b, f) :: L.map fblk) := by
    rw [List.map_append]; exact List.perm_append_comm
  exact stars_perm hp.symm ⟨a, c1, rfl, hd'.1, ha, h1⟩

/-- The least number that is free (8: none). -/
def least (fds : List Nat) : Nat := fds.findIdx (· == 0)
theorem least_le {fds : List Nat} : least fds ≤ fds.length := List.findIdx_le_length
theorem least_lt {fds : List Nat} (h : least fds < fds.length) : fds[least fds] = 0 := by
  have := List.findIdx_getElem (w := h)
  exact beq_iff_eq.1 this
theorem least_eq {fds : List Nat} {k : Nat} (hk : k < fds.length) (h0 : fds[k] = 0) (hb : ∀ j (hj : j < k), fds[j]'(by omega) ≠ 0) : least fds = k := by
  unfold least
  rw [List.findIdx_eq hk]
  exact ⟨by simp [h0], fun j hj => by simp [hb j hj]⟩
theorem least_none {fds : List Nat} (hb : ∀ j (hj : j < fds.length), fds[j] ≠ 0) : least fds = fds.length := by
  unfold least
  rw [List.findIdx_eq_length]
  intro x hx
  obtain ⟨j, hj, rfl⟩ := List.getElem_of_mem hx
  simp [hb j hj]
attribute [local irreducible] W WL Does Exec Body Then inBlk RG WR row obj pblk
theorem cells_at {L : FL} {fds : List Nat} {k : Nat} (hk : k < fds.length) : (fds.map (ptr L))[k]? = some (ptr L fds[k]) := by simp [hk]

set_option maxHeartbeats 1000000 in
theorem free_fn (h : PH) (b : Nat) (L : FL) (fds : List Nat) (hl : fds.length = 8) (hle : ∀ k ∈ fds, k ≤ L.length) : Does Try.prog 22 [.pointer (some ⟨b, 0, none⟩)] [tblk b L fds] h
    (Ret fun r R' _ => r = .tuple #[.int .i64 (if least fds < 8 then (least fds : Int) else 0), .int .i64 (if least fds < 8 then 0 else 624)] ∧ R' = [tblk b L fds]) := by
  unfold tblk
  refine Does_of_W Try.func22 rfl (n := 17) rfl rfl (by simp only [argE] <;> rfl) ?_
  (repeat (first | refine W_seq ?_))
  skip
  refine W_region rfl ?_
  refine WL_is (X_assign rfl rfl) rfl rfl rfl ?_
  refine WL_is (X_assign rfl rfl) rfl rfl rfl ?_
  (repeat (first | refine WL_nil ?_ | refine Then_normal ?_ | refine W_seq ?_))
  skip
  refine W_region rfl ?_
  refine WL_is (X_move rfl rfl) rfl rfl rfl ?_
  (repeat (first | refine WL_nil ?_ | refine Then_normal ?_ | refine W_block ?_))
  refine W_loop (X := Nat) (L := fun k => ⟨[(5, .int .i64 (k : Int)), (0, .pointer (some ⟨b, 0, none⟩))], [], [blk b (fds.map (ptr L)) 56], h⟩) (p := fun k => k ≤ 8 ∧ ∀ j (hj : j < k) (hj' : j < fds.length), fds[j] ≠ 0) (μ := fun k => 8 - k) 0 ⟨(by repeat (first | exact SubE_nil | refine SubE_cons rfl ?_)), rfl, SubR.refl _, rfl⟩ ⟨by omega, fun j hj => by omega⟩ ?_
  rintro k ⟨hk, hgood⟩
  by_cases hlt : k < 8
  · have hk' : k < fds.length := by omega
    have hv := cells_at (L := L) hk'
    by_cases h0 : fds[k] = 0
    · rw [h0] at hv
      have hv : (fds.map (ptr L))[k]? = some (.pointer none) := hv
      have hle := least_eq hk' h0 (fun j hj => hgood j hj (by omega))
      (repeat (first | refine W_seq ?_))
      refine W_region rfl ?_
      refine WL_is (X_lss_t rfl rfl rfl (by omega)) rfl rfl rfl ?_
      (repeat (first | refine WL_nil ?_ | refine Then_normal ?_ | refine W_seq ?_ | refine W_skip ?_ | refine W_block ?_ | refine W_true rfl ?_))
      skip
      refine W_region rfl ?_
      refine WL_is (X_move rfl rfl) rfl rfl rfl ?_
      refine WL_is (X_assign rfl rfl) rfl rfl rfl ?_
      (repeat (first | refine WL_nil ?_ | refine Then_normal ?_ | refine W_seq ?_))
      skip
      refine W_region rfl ?_
      refine WL_is (X_move rfl rfl) rfl rfl rfl ?_
      refine WL_is (X_move rfl rfl) rfl rfl rfl ?_
      refine WL_is (X_nilCheck rfl rfl) rfl rfl rfl ?_
      refine WL_is (X_fieldAddr rfl rfl rfl (by simp only [Nat.zero_add] <;> rfl)) rfl rfl rfl ?_
      refine WL_is (X_index_arr (sz := 1) rfl rfl rfl rfl rfl (by omega) (by omega) (by simp only [Nat.zero_add, Int.toNat_natCast, Nat.mul_one] <;> rfl)) rfl rfl rfl ?_
      refine WL_is (X_load1 rfl rfl (by exact idx0) rfl (by assumption)) rfl rfl rfl ?_
      refine WL_is (X_eqPn_t rfl rfl rfl rfl) rfl rfl rfl ?_
      (repeat (first | refine WL_nil ?_ | refine Then_normal ?_ | refine W_seq ?_ | refine W_true rfl ?_))
      skip
      refine W_region rfl ?_
      refine WL_is (X_move rfl rfl) rfl rfl rfl ?_
      refine WL_is (X_assign rfl rfl) rfl rfl rfl ?_
      refine WL_is (X_assign rfl rfl) rfl rfl rfl ?_
      (repeat (first | refine WL_nil ?_ | refine Then_normal ?_ | refine W_ret ?_ | refine Then_ret ?_ | refine inBlk_ret ?_))
      refine Body_end rfl rfl rfl (SubR.refl _) ?_
      rw [hle, if_pos hlt, if_pos hlt]
      exact ⟨rfl, rfl⟩
    · obtain ⟨j, hj, e, hp⟩ := ptr_pos (L := L) (k := fds[k]) (by omega) (hle _ (List.getElem_mem _))
      rw [hp] at hv
      (repeat (first | refine W_seq ?_))
      refine W_region rfl ?_
      refine WL_is (X_lss_t rfl rfl rfl (by omega)) rfl rfl rfl ?_
      (repeat (first | refine WL_nil ?_ | refine Then_normal ?_ | refine W_seq ?_ | refine W_skip ?_ | refine W_block ?_ | refine W_true rfl ?_))
      skip
      refine W_region rfl ?_
      refine WL_is (X_move rfl rfl) rfl rfl rfl ?_
      refine WL_is (X_assign rfl rfl) rfl rfl rfl ?_
      (repeat (first | refine WL_nil ?_ | refine Then_normal ?_ | refine W_seq ?_))
      skip
      refine W_region rfl ?_
      refine WL_is (X_move rfl rfl) rfl rfl rfl ?_
      refine WL_is (X_move rfl rfl) rfl rfl rfl ?_
      refine WL_is (X_nilCheck rfl rfl) rfl rfl rfl ?_
      refine WL_is (X_fieldAddr rfl rfl rfl (by simp only [Nat.zero_add] <;> rfl)) rfl rfl rfl ?_
      refine WL_is (X_index_arr (sz := 1) rfl rfl rfl rfl rfl (by omega) (by omega) (by simp only [Nat.zero_add, Int.toNat_natCast, Nat.mul_one] <;> rfl)) rfl rfl rfl ?_
      refine WL_is (X_load1 rfl rfl (by exact idx0) rfl (by assumption)) rfl rfl rfl ?_
      refine WL_is (X_eqPn_f rfl rfl rfl rfl) rfl rfl rfl ?_
      (repeat (first | refine WL_nil ?_ | refine Then_normal ?_ | refine W_skip ?_ | refine inBlk_normal ?_ | refine W_false rfl ?_))
      skip
      refine W_region rfl ?_
      refine WL_is (X_addW rfl rfl rfl (by exact wrap_i64_in (by omega) (by omega))) rfl rfl rfl ?_
      refine WL_is (X_move rfl rfl) rfl rfl rfl ?_
      (repeat (first | refine WL_nil ?_ | refine Then_normal ?_))
      refine ⟨k + 1, ⟨(by repeat (first | exact SubE_nil | refine SubE_cons rfl ?_)), rfl, SubR.refl _, rfl⟩, ⟨by omega, fun j hj hj' => ?_⟩, by omega⟩
      rcases Nat.lt_or_ge j k with h1 | h1
      · exact hgood j h1 hj'
      · have : j = k := by omega
        subst this; exact h0
  · have hk8 : k = 8 := by omega
    subst hk8
    (repeat (first | refine W_seq ?_))
    refine W_region rfl ?_
    refine WL_is (X_lss_f rfl rfl rfl (by omega)) rfl rfl rfl ?_
    (repeat (first | refine WL_nil ?_ | refine Then_normal ?_ | refine W_seq ?_ | refine W_exit ?_ | refine Then_exit ?_ | refine inBlk_here ?_ | refine W_false rfl ?_))
    skip
    refine W_region rfl ?_
    refine WL_is (X_assign rfl rfl) rfl rfl rfl ?_
    refine WL_is (X_assign rfl rfl) rfl rfl rfl ?_
    (repeat (first | refine WL_nil ?_ | refine Then_normal ?_ | refine W_ret ?_))
    refine Body_end rfl rfl rfl (SubR.refl _) ?_
    have := least_none (fds := fds) (fun j hj => hgood j (by omega) hj)
    rw [this, if_neg (by omega), if_neg (by omega)]
    exact ⟨rfl, rfl⟩

/-- The number's place in the list of all that was opened, counted from 1 on (0: it has none). -/
def atF (fds : List Nat) (fd : Int) : Nat := if 0 ≤ fd ∧ fd < 8 then (fds[fd.toNat]?).getD 0 else 0
set_option maxHeartbeats 1000000 in
theorem file_fn (h : PH) (b : Nat) (L : FL) (fds : List Nat) (fd : Int) (hl : fds.length = 8) (hle : ∀ k ∈ fds, k ≤ L.length) : Does Try.prog 24 [.pointer (some ⟨b, 0, none⟩), .int .i64 fd] [tblk b L fds] h
    (Ret fun r R' _ => r = .tuple #[ptr L (atF fds fd), .int .i64 (if atF fds fd = 0 then 609 else 0)] ∧ R' = [tblk b L fds]) := by
  unfold tblk atF
  refine Does_of_W Try.func24 rfl (n := 29) rfl rfl (by simp only [argE, Nat.reduceAdd] <;> rfl) ?_
  by_cases h1 : fd < 0
  · (repeat (first | refine W_seq ?_))
    skip
    refine W_region rfl ?_
    refine WL_is (X_assign rfl rfl) rfl rfl rfl ?_
    refine WL_is (X_assign rfl rfl) rfl rfl rfl ?_
    (repeat (first | refine WL_nil ?_ | refine Then_normal ?_ | refine W_seq ?_))
    skip
    refine W_region rfl ?_
    refine WL_is (X_move rfl rfl) rfl rfl rfl ?_
    refine WL_is (X_eqPn_f rfl rfl rfl rfl) rfl rfl rfl ?_
    (repeat (first | refine WL_nil ?_ | refine Then_normal ?_ | refine W_seq ?_ | refine W_skip ?_ | refine W_false rfl ?_))
    skip
    refine W_region rfl ?_
    refine WL_is (X_move rfl rfl) rfl rfl rfl ?_
    refine WL_is (X_lss_t rfl rfl rfl (by omega)) rfl rfl rfl ?_
    refine WL_is (X_move rfl rfl) rfl rfl rfl ?_
    refine WL_off rfl rfl rfl ?_
    refine WL_off rfl rfl rfl ?_
    refine WL_is (X_pick_t rfl rfl rfl) rfl rfl rfl ?_
    refine WL_is (X_move rfl rfl) rfl rfl rfl ?_
    refine WL_off rfl rfl rfl ?_
    refine WL_off rfl rfl rfl ?_
    refine WL_off rfl rfl rfl ?_
    refine WL_off rfl rfl rfl ?_
    refine WL_off rfl rfl rfl ?_
    refine WL_off rfl rfl rfl ?_
    refine WL_off rfl rfl rfl ?_
    refine WL_is (X_pick_t rfl rfl rfl) rfl rfl rfl ?_
    (repeat (first | refine WL_nil ?_ | refine Then_normal ?_ | refine W_seq ?_ | refine W_true rfl ?_))
    skip
    refine W_region rfl ?_
    refine WL_is (X_assign rfl rfl) rfl rfl rfl ?_
    refine WL_is (X_assign rfl rfl) rfl rfl rfl ?_
    (repeat (first | refine WL_nil ?_ | refine Then_normal ?_ | refine W_ret ?_ | refine Then_ret ?_))
    refine Body_end rfl rfl rfl (SubR.refl _) ?_
    rw [if_neg (by omega)]
    exact ⟨rfl, rfl⟩
  · by_cases h2 : 8 ≤ fd
    · (repeat (first | refine W_seq ?_))
      skip
      refine W_region rfl ?_
      refine WL_is (X_assign rfl rfl) rfl rfl rfl ?_
      refine WL_is (X_assign rfl rfl) rfl rfl rfl ?_
      (repeat (first | refine WL_nil ?_ | refine Then_normal ?_ | refine W_seq ?_))
      skip
      refine W_region rfl ?_
      refine WL_is (X_move rfl rfl) rfl rfl rfl ?_
      refine WL_is (X_eqPn_f rfl rfl rfl rfl) rfl rfl rfl ?_
      (repeat (first | refine WL_nil ?_ | refine Then_normal ?_ | refine W_seq ?_ | refine W_skip ?_ | refine W_false rfl ?_))
      skip
      refine W_region rfl ?_
      refine WL_is (X_move rfl rfl) rfl rfl rfl ?_
      refine WL_is (X_lss_f rfl rfl rfl (by omega)) rfl rfl rfl ?_
      refine WL_is (X_move rfl rfl) rfl rfl rfl ?_
      refine WL_is (X_move rfl rfl) rfl rfl rfl ?_
      refine WL_is (X_geq_t rfl rfl rfl (by omega)) rfl rfl rfl ?_
      refine WL_is (X_pick_f rfl rfl rfl) rfl rfl rfl ?_
      refine WL_is (X_move rfl rfl) rfl rfl rfl ?_
      refine WL_off rfl rfl rfl ?_
      refine WL_off rfl rfl rfl ?_
      refine WL_off rfl rfl rfl ?_
      refine WL_off rfl rfl rfl ?_
      refine WL_off rfl rfl rfl ?_
      refine WL_off rfl rfl rfl ?_
      refine WL_off rfl rfl rfl ?_
      refine WL_is (X_pick_t rfl rfl rfl) rfl rfl rfl ?_
      (repeat (first | refine WL_nil ?_ | refine Then_normal ?_ | refine W_seq ?_ | refine W_true rfl ?_))
      skip
      refine W_region rfl ?_
      refine WL_is (X_assign rfl rfl) rfl rfl rfl ?_
      refine WL_is (X_assign rfl rfl) rfl rfl rfl ?_
      (repeat (first | refine WL_nil ?_ | refine Then_normal ?_ | refine W_ret ?_ | refine Then_ret ?_))
      refine Body_end rfl rfl rfl (SubR.refl _) ?_
      rw [if_neg (by omega)]
      exact ⟨rfl, rfl⟩
    · obtain ⟨k, rfl⟩ : ∃ k : Nat, fd = (k : Int) := ⟨fd.toNat, by omega⟩
      have hk : k < fds.length := by omega
      have hv := cells_at (L := L) hk
      rw [if_pos (by omega)]
      simp only [Int.toNat_natCast, List.getElem?_eq_getElem hk, Option.getD_some]
      by_cases h0 : fds[k] = 0
      · rw [h0] at hv ⊢
        have hv : (fds.map (ptr L))[k]? = some (.pointer none) := hv
        (repeat (first | refine W_seq ?_))
        skip
        refine W_region rfl ?_
        refine WL_is (X_assign rfl rfl) rfl rfl rfl ?_
        refine WL_is (X_assign rfl rfl) rfl rfl rfl ?_
        (repeat (first | refine WL_nil ?_ | refine Then_normal ?_ | refine W_seq ?_))
        skip
        refine W_region rfl ?_
        refine WL_is (X_move rfl rfl) rfl rfl rfl ?_
        refine WL_is (X_eqPn_f rfl rfl rfl rfl) rfl rfl rfl ?_
        (repeat (first | refine WL_nil ?_ | refine Then_normal ?_ | refine W_seq ?_ | refine W_skip ?_ | refine W_false rfl ?_))
        skip
        refine W_region rfl ?_
        refine WL_is (X_move rfl rfl) rfl rfl rfl ?_
        refine WL_is (X_lss_f rfl rfl rfl (by omega)) rfl rfl rfl ?_
        refine WL_is (X_move rfl rfl) rfl rfl rfl ?_
        refine WL_is (X_move rfl rfl) rfl rfl rfl ?_
        refine WL_is (X_geq_f rfl rfl rfl (by omega)) rfl rfl rfl ?_
        refine WL_is (X_pick_f rfl rfl rfl) rfl rfl rfl ?_
        refine WL_is (X_move rfl rfl) rfl rfl rfl ?_
        refine WL_is (X_move rfl rfl) rfl rfl rfl ?_
        refine WL_is (X_move rfl rfl) rfl rfl rfl ?_
        refine WL_is (X_nilCheck rfl rfl) rfl rfl rfl ?_
        refine WL_is (X_fieldAddr rfl rfl rfl (by simp only [Nat.zero_add] <;> rfl)) rfl rfl rfl ?_
        refine WL_is (X_index_arr (sz := 1) rfl rfl rfl rfl rfl (by omega) (by omega) (by simp only [Nat.zero_add, Int.toNat_natCast, Nat.mul_one] <;> rfl)) rfl rfl rfl ?_
        refine WL_is (X_load1 rfl rfl (by exact idx0) rfl (by assumption)) rfl rfl rfl ?_
        refine WL_is (X_eqPn_t rfl rfl rfl rfl) rfl rfl rfl ?_
        refine WL_is (X_pick_f rfl rfl rfl) rfl rfl rfl ?_
        (repeat (first | refine WL_nil ?_ | refine Then_normal ?_ | refine W_seq ?_ | refine W_true rfl ?_))
        skip
        refine W_region rfl ?_
        refine WL_is (X_assign rfl rfl) rfl rfl rfl ?_
        refine WL_is (X_assign rfl rfl) rfl rfl rfl ?_
        (repeat (first | refine WL_nil ?_ | refine Then_normal ?_ | refine W_ret ?_ | refine Then_ret ?_))
        refine Body_end rfl rfl rfl (SubR.refl _) ?_
        exact ⟨rfl, rfl⟩
      · obtain ⟨j, hj, e, hp⟩ := ptr_pos (L := L) (k := fds[k]) (by omega) (hle _ (List.getElem_mem _))
        rw [hp] at hv ⊢
        (repeat (first | refine W_seq ?_))
        skip
        refine W_region rfl ?_
        refine WL_is (X_assign rfl rfl) rfl rfl rfl ?_
        refine WL_is (X_assign rfl rfl) rfl rfl rfl ?_
        (repeat (first | refine WL_nil ?_ | refine Then_normal ?_ | refine W_seq ?_))
        skip
        refine W_region rfl ?_
        refine WL_is (X_move rfl rfl) rfl rfl rfl ?_
        refine WL_is (X_eqPn_f rfl rfl rfl rfl) rfl rfl rfl ?_
        (repeat (first | refine WL_nil ?_ | refine Then_normal ?_ | refine W_seq ?_ | refine W_skip ?_ | refine W_false rfl ?_))
        skip
        refine W_region rfl ?_
        refine WL_is (X_move rfl rfl) rfl rfl rfl ?_
        refine WL_is (X_lss_f rfl rfl rfl (by omega)) rfl rfl rfl ?_
        refine WL_is (X_move rfl rfl) rfl rfl rfl ?_
        refine WL_is (X_move rfl rfl) rfl rfl rfl ?_
        refine WL_is (X_geq_f rfl rfl rfl (by omega)) rfl rfl rfl ?_
        refine WL_is (X_pick_f rfl rfl rfl) rfl rfl rfl ?_
        refine WL_is (X_move rfl rfl) rfl rfl rfl ?_
        refine WL_is (X_move rfl rfl) rfl rfl rfl ?_
        refine WL_is (X_move rfl rfl) rfl rfl rfl ?_
        refine WL_is (X_nilCheck rfl rfl) rfl rfl rfl ?_
        refine WL_is (X_fieldAddr rfl rfl rfl (by simp only [Nat.zero_add] <;> rfl)) rfl rfl rfl ?_
        refine WL_is (X_index_arr (sz := 1) rfl rfl rfl rfl rfl (by omega) (by omega) (by simp only [Nat.zero_add, Int.toNat_natCast, Nat.mul_one] <;> rfl)) rfl rfl rfl ?_
        refine WL_is (X_load1 rfl rfl (by exact idx0) rfl (by assumption)) rfl rfl rfl ?_
        refine WL_is (X_eqPn_f rfl rfl rfl rfl) rfl rfl rfl ?_
        refine WL_is (X_pick_f rfl rfl rfl) rfl rfl rfl ?_
        (repeat (first | refine WL_nil ?_ | refine Then_normal ?_ | refine W_seq ?_ | refine W_skip ?_ | refine W_false rfl ?_))
        skip
        refine W_region rfl ?_
        refine WL_is (X_move rfl rfl) rfl rfl rfl ?_
        refine WL_is (X_move rfl rfl) rfl rfl rfl ?_
        refine WL_is (X_nilCheck rfl rfl) rfl rfl rfl ?_
        refine WL_is (X_fieldAddr rfl rfl rfl (by simp only [Nat.zero_add] <;> rfl)) rfl rfl rfl ?_
        refine WL_is (X_index_arr (sz := 1) rfl rfl rfl rfl rfl (by omega) (by omega) (by simp only [Nat.zero_add, Int.toNat_natCast, Nat.mul_one] <;> rfl)) rfl rfl rfl ?_
        refine WL_is (X_load1 rfl rfl (by exact idx0) rfl (by assumption)) rfl rfl rfl ?_
        refine WL_is (X_assign rfl rfl) rfl rfl rfl ?_
        refine WL_is (X_assign rfl rfl) rfl rfl rfl ?_
        (repeat (first | refine WL_nil ?_ | refine Then_normal ?_ | refine W_ret ?_))
        refine Body_end rfl rfl rfl (SubR.refl _) ?_
        rw [if_neg h0]
        exact ⟨rfl, rfl⟩
/-- What no table answers. -/
theorem file_nil (h : PH) (fd : Int) : Does Try.prog 24 [.pointer none, .int .i64 fd] [] h (Ret fun r R' _ => r = .tuple #[.pointer none, .int .i64 1] ∧ R' = []) := by
  refine Does_of_W Try.func24 rfl (n := 29) rfl rfl (by simp only [argE, Nat.reduceAdd] <;> rfl) ?_
  (repeat (first | refine W_seq ?_))
  skip
  refine W_region rfl ?_
  refine WL_is (X_assign rfl rfl) rfl rfl rfl ?_
  refine WL_is (X_assign rfl rfl) rfl rfl rfl ?_
  (repeat (first | refine WL_nil ?_ | refine Then_normal ?_ | refine W_seq ?_))
  skip
  refine W_region rfl ?_
  refine WL_is (X_move rfl rfl) rfl rfl rfl ?_
  refine WL_is (X_eqPn_t rfl rfl rfl rfl) rfl rfl rfl ?_
  (repeat (first | refine WL_nil ?_ | refine Then_normal ?_ | refine W_seq ?_ | refine W_true rfl ?_))
  skip
  refine W_region rfl ?_
  refine WL_is (X_assign rfl rfl) rfl rfl rfl ?_
  refine WL_is (X_assign rfl rfl) rfl rfl rfl ?_
  (repeat (first | refine WL_nil ?_ | refine Then_normal ?_ | refine W_ret ?_ | refine Then_ret ?_))
  refine Body_end rfl rfl rfl (SubR.refl _) ?_
  exact ⟨rfl, rfl⟩
end Go.Proofs.Ytmicilnmphkpmaa
