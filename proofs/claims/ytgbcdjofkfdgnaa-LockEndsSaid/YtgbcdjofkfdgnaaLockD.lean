/- Locks: a process taken out of a queue. -/
import Derived.Test.YtgbcdjofkfdgnaaLockC
namespace Go.Proofs.Ytgbcdjofkfdgnaa
open Go Go.Par PH
instance decI : Dec encI 1 where
  len _ := rfl
  dec c := match c with
    | [.int .i64 a] => some a
    | _ => none
  ok c x h := by
    revert h
    split
    · intro h; cases h; rfl
    · intro h; cases h
attribute [local irreducible] W WL Does Exec Body Then inBlk RG WR row obj pblk
def closV (b : Nat) : Value := .func (.func 24) #[] #[.pointer (some ⟨b, 0, none⟩)]
theorem clos_fn (h : PH) (b : Nat) (x p : Int) : Does Try.prog 24 [.int .i64 x, .pointer (some ⟨b, 0, none⟩)] [blk b [.int .i64 p] 3] h (Ret fun r R' _ => r = .bool (decide (x = p)) ∧ R' = [blk b [.int .i64 p] 3]) := by
  refine Does_of_W Try.func24 rfl (n := 7) rfl rfl (by simp only [argE, Nat.reduceAdd] <;> rfl) ?_
  (repeat (first | refine W_seq ?_))
  skip
  refine W_region rfl ?_
  refine WL_is (X_assign rfl rfl) rfl rfl rfl ?_
  (repeat (first | refine WL_nil ?_ | refine Then_normal ?_ | refine W_seq ?_))
  skip
  refine W_region rfl ?_
  refine WL_is (X_move rfl rfl) rfl rfl rfl ?_
  refine WL_is (X_load1 rfl rfl (by exact idx0) rfl rfl) rfl rfl rfl ?_
  refine WL_is (X_eql rfl rfl rfl) rfl rfl rfl ?_
  refine WL_is (X_assign rfl rfl) rfl rfl rfl ?_
  (repeat (first | refine WL_nil ?_ | refine Then_normal ?_ | refine W_ret ?_))
  exact Body_end rfl rfl rfl (SubR.refl _) ⟨rfl, rfl⟩
def fstI (q : List Int) (p : Int) : Nat := q.findIdx fun x => decide (x = p)
set_option maxHeartbeats 1000000 in
theorem indexFunc_fn (h : PH) (b : Nat) (a : Option Addr) (cap : Nat) (q : List Int) (p : Int) (hl : q.length ≤ 100000) :
    Does Try.prog 30 [.slice a q.length cap, closV b] [rowL encI (.slice a q.length cap) 3 1 q, blk b [.int .i64 p] 3] h
      (Ret fun r R' _ => r = .int .i64 (if fstI q p < q.length then (fstI q p : Int) else -1) ∧ R' = [rowL encI (.slice a q.length cap) 3 1 q, blk b [.int .i64 p] 3]) := by
  unfold closV
  refine Does_of_W Try.func30 rfl (n := 19) rfl rfl (by simp only [argE, Nat.reduceAdd] <;> rfl) ?_
  (repeat (first | refine W_seq ?_))
  skip
  refine W_region rfl ?_
  refine WL_is (X_assign rfl rfl) rfl rfl rfl ?_
  (repeat (first | refine WL_nil ?_ | refine Then_normal ?_ | refine W_seq ?_))
  skip
  refine W_region rfl ?_
  refine WL_is (X_move rfl rfl) rfl rfl rfl ?_
  refine WL_is (X_len rfl rfl rfl) rfl rfl rfl ?_
  refine WL_is (X_move rfl rfl) rfl rfl rfl ?_
  (repeat (first | refine WL_nil ?_ | refine Then_normal ?_ | refine W_block ?_))
  refine W_loop (X := Nat × PH) (L := fun k => ⟨[(8, .int .i64 (k.1 : Int)), (7, .int .i64 (q.length : Int)), (0, .slice a q.length cap), (1, .func (.func 24) #[] #[.pointer (some ⟨b, 0, none⟩)])], [], [rowL encI (.slice a q.length cap) 3 1 q, blk b [.int .i64 p] 3], k.2⟩) (p := fun k => k.1 ≤ q.length ∧ ∀ i (hi : i < k.1) (hi' : i < q.length), q[i] ≠ p) (μ := fun k => q.length - k.1) (0, h) ⟨(by repeat (first | exact SubE_nil | refine SubE_cons rfl ?_)), rfl, SubR.refl _, rfl⟩ ⟨Nat.zero_le _, fun i hi => absurd hi (Nat.not_lt_zero _)⟩ ?_
  rintro ⟨k, h⟩ ⟨hkl, hgood⟩
  dsimp only at hkl hgood ⊢
  by_cases hlt : k < q.length
  · refine W_updE (UpdE.shapePos 0 rfl (by omega)) ?_
    rintro _ h - ⟨rfl, rfl, rb, rfl⟩
    (repeat (first | refine W_seq ?_))
    refine W_region rfl ?_
    refine WL_is (X_lss_t rfl rfl rfl (by omega)) rfl rfl rfl ?_
    (repeat (first | refine WL_nil ?_ | refine Then_normal ?_ | refine W_seq ?_ | refine W_skip ?_ | refine W_block ?_ | refine W_true rfl ?_))
    skip
    refine W_region rfl ?_
    refine WL_is (X_move rfl rfl) rfl rfl rfl ?_
    refine WL_is (X_assign rfl rfl) rfl rfl rfl ?_
    (repeat (first | refine WL_nil ?_ | refine Then_normal ?_ | refine W_seq ?_))
    skip
    refine W_region rfl ?_
    refine WL_is (X_move rfl rfl) rfl rfl rfl ?_
    refine WL_is (X_move rfl rfl) rfl rfl rfl ?_
    refine WL_is (X_move rfl rfl) rfl rfl rfl ?_
    refine WL_is (X_index_row rfl rfl (by exact idx0) rfl rfl rfl (by omega)) rfl rfl rfl ?_
    refine WL_is (X_load_spot rfl rfl (by exact idx0) (by rfl) rfl (by omega) rfl) rfl rfl rfl ?_
    refine WL_callR [_] _ rfl rfl rfl Try.func24 rfl rfl rfl rfl (perm_front 1 rfl) (clos_fn h b q[k] p) ?_
    rintro r _ h2 hl2 ⟨rfl, rfl⟩
    simp only [List.cons_append, List.nil_append, List.eraseIdx_cons_zero]
    by_cases he : q[k] = p
    · rw [decide_eq_true he]
      (repeat (first | refine WL_nil ?_ | refine Then_normal ?_ | refine W_seq ?_ | refine W_true rfl ?_))
      skip
      refine W_region rfl ?_
      refine WL_is (X_move rfl rfl) rfl rfl rfl ?_
      refine WL_is (X_assign rfl rfl) rfl rfl rfl ?_
      (repeat (first | refine WL_nil ?_ | refine Then_normal ?_ | refine W_ret ?_ | refine Then_ret ?_ | refine inBlk_ret ?_))
      refine Body_end rfl rfl rfl (SubR.of_perm (.swap _ _ _)) ⟨?_, rfl⟩
      have : fstI q p = k := by
        unfold fstI
        rw [List.findIdx_eq hlt]
        exact ⟨by simpa using he, fun j hj => by simpa using hgood j hj (by omega)⟩
      rw [this, if_pos hlt]
    · rw [decide_eq_false he]
      (repeat (first | refine WL_nil ?_ | refine Then_normal ?_ | refine W_skip ?_ | refine inBlk_normal ?_ | refine W_false rfl ?_))
      skip
      refine W_region rfl ?_
      refine WL_is (X_addW rfl rfl rfl (by exact wrap_i64_in (by omega) (by omega))) rfl rfl rfl ?_
      refine WL_is (X_move rfl rfl) rfl rfl rfl ?_
      (repeat (first | refine WL_nil ?_ | refine Then_normal ?_))
      refine ⟨(k + 1, h2), ⟨(by repeat (first | exact SubE_nil | refine SubE_cons rfl ?_)), rfl, SubR.of_perm (.swap _ _ _), rfl⟩, ⟨by dsimp only; omega, fun i hi hi' => ?_⟩, by dsimp only; omega⟩
      dsimp only at hi
      rcases Nat.lt_or_ge i k with h1 | h1
      · exact hgood i h1 hi'
      · have : i = k := by omega
        subst this; exact he
  · (repeat (first | refine W_seq ?_))
    refine W_region rfl ?_
    refine WL_is (X_lss_f rfl rfl rfl (by omega)) rfl rfl rfl ?_
    (repeat (first | refine WL_nil ?_ | refine Then_normal ?_ | refine W_seq ?_ | refine W_exit ?_ | refine Then_exit ?_ | refine inBlk_here ?_ | refine W_false rfl ?_))
    skip
    refine W_region rfl ?_
    refine WL_is (X_assign rfl rfl) rfl rfl rfl ?_
    (repeat (first | refine WL_nil ?_ | refine Then_normal ?_ | refine W_ret ?_))
    refine Body_end rfl rfl rfl (SubR.refl _) ⟨?_, rfl⟩
    have : fstI q p = q.length := by
      unfold fstI
      rw [List.findIdx_eq_length]
      intro x hx
      obtain ⟨j, hj, rfl⟩ := List.getElem_of_mem hx
      simpa using hgood j (by omega) hj
    rw [this, if_neg (by omega)]
def keep (q : List Int) (p : Int) : List Int := q.filter fun x => decide (x ≠ p)
theorem keep_len (q : List Int) (p : Int) : (keep q p).length ≤ q.length := List.length_filter_le _ _
theorem keep_fst {q : List Int} {p : Int} : keep (q.take (fstI q p)) p = q.take (fstI q p) := by
  unfold keep
  rw [List.filter_eq_self]
  intro x hx
  obtain ⟨j, hj, rfl⟩ := List.getElem_of_mem hx
  simp only [List.length_take] at hj
  have := List.not_of_lt_findIdx (p := fun x => decide (x = p)) (xs := q) (i := j) (show j < fstI q p by omega)
  simpa using this
theorem keep_all {q : List Int} {p : Int} (h : fstI q p = q.length) : keep q p = q := by
  have := keep_fst (q := q) (p := p)
  rwa [h, List.take_length] at this
theorem keep_succ {q : List Int} {p : Int} {j : Nat} (hj : j < q.length) : keep (q.take (j + 1)) p = keep (q.take j) p ++ (if q[j] = p then [] else [q[j]]) := by
  unfold keep
  rw [List.take_succ_eq_append_getElem hj, List.filter_append]
  congr 1
  by_cases h : q[j] = p <;> simp [h]
theorem flatMapI (l : List Int) : l.flatMap encI = l.map (Value.int .i64) := by rw [List.map_eq_flatMap]; rfl
structure DX where
  j : Nat
  i : Nat
  L : List Int
  h : PH
set_option maxHeartbeats 2000000 in
theorem deleteFunc_fn (h : PH) (b : Nat) (a : Option Addr) (cap : Nat) (q : List Int) (p : Int) (hl : q.length ≤ 100000) :
    Does Try.prog 23 [.slice a q.length cap, closV b] [rowL encI (.slice a q.length cap) 3 1 q, blk b [.int .i64 p] 3] h
      (Ret fun r R' _ => R' = [rowL encI r 3 1 (keep q p), blk b [.int .i64 p] 3]) := by
  have hix := indexFunc_fn h b a cap q p hl
  unfold closV at *
  refine Does_of_W Try.func23 rfl (n := 42) rfl rfl (by simp only [argE, Nat.reduceAdd] <;> rfl) ?_
  (repeat (first | refine W_seq ?_))
  skip
  refine W_region rfl ?_
  refine WL_is (X_assign rfl rfl) rfl rfl rfl ?_
  (repeat (first | refine WL_nil ?_ | refine Then_normal ?_ | refine W_seq ?_))
  skip
  refine W_region rfl ?_
  refine WL_is (X_move rfl rfl) rfl rfl rfl ?_
  refine WL_is (X_move rfl rfl) rfl rfl rfl ?_
  refine WL_callR [_, _] [] rfl rfl rfl Try.func30 rfl rfl rfl rfl (.refl _) hix ?_
  rintro r _ h2 hl2 ⟨rfl, rfl⟩
  simp only [List.append_nil]
  by_cases hf : fstI q p < q.length
  · simp only [if_pos hf]
    refine WL_updE (UpdE.shapePos 0 rfl (by omega)) ?_
    rintro _ h2 - ⟨rfl, rfl, rb, rfl⟩
    refine WL_is (X_assign rfl rfl) rfl rfl rfl ?_
    (repeat (first | refine WL_nil ?_ | refine Then_normal ?_ | refine W_seq ?_))
    skip
    refine W_region rfl ?_
    refine WL_is (X_move rfl rfl) rfl rfl rfl ?_
    refine WL_is (X_eql_f rfl rfl rfl (by omega)) rfl rfl rfl ?_
    (repeat (first | refine WL_nil ?_ | refine Then_normal ?_ | refine W_seq ?_ | refine W_skip ?_ | refine W_false rfl ?_))
    skip
    refine W_region rfl ?_
    refine WL_is (X_move rfl rfl) rfl rfl rfl ?_
    refine WL_is (X_addW rfl rfl rfl (by exact wrap_i64_in (by omega) (by omega))) rfl rfl rfl ?_
    refine WL_is (X_assign rfl rfl) rfl rfl rfl ?_
    (repeat (first | refine WL_nil ?_ | refine Then_normal ?_ | refine W_block ?_))
    refine W_loop (X := DX) (L := fun x => ⟨[(6, .int .i64 (x.j : Int)), (5, .int .i64 (x.i : Int)), (0, .slice (some ⟨rb, 0, none⟩) q.length cap), (1, .func (.func 24) #[] #[.pointer (some ⟨b, 0, none⟩)])], [], [rowL encI (.slice (some ⟨rb, 0, none⟩) q.length cap) 3 1 x.L, blk b [.int .i64 p] 3], x.h⟩)
      (p := fun x => x.j ≤ q.length ∧ x.i < x.j ∧ x.L.length = q.length ∧ x.L.take x.i = keep (q.take x.j) p ∧ x.L.drop x.j = q.drop x.j) (μ := fun x => q.length - x.j) ⟨fstI q p + 1, fstI q p, q, h2⟩ ⟨(by repeat (first | exact SubE_nil | refine SubE_cons rfl ?_)), rfl, SubR.refl _, rfl⟩ ⟨by dsimp only; omega, by dsimp only; omega, rfl, ?_, rfl⟩ ?_
    · dsimp only
      have hg : q[fstI q p] = p := of_decide_eq_true (List.findIdx_getElem (p := fun x => decide (x = p)) (w := hf))
      rw [keep_succ hf, keep_fst, if_pos hg, List.append_nil]
    · rintro ⟨j, i, L, h3⟩ ⟨hj, hij, hL, htk, hdr⟩
      dsimp only at hj hij hL htk hdr ⊢
      by_cases hlt : j < q.length
      · have hLj : L[j] = q[j] := by
          have h1 : (L.drop j)[0]? = (q.drop j)[0]? := by rw [hdr]
          simpa [hlt, hL] using h1
        (repeat (first | refine W_seq ?_))
        refine W_region rfl ?_
        refine WL_is (X_move rfl rfl) rfl rfl rfl ?_
        refine WL_is (X_move rfl rfl) rfl rfl rfl ?_
        refine WL_is (X_len rfl rfl rfl) rfl rfl rfl ?_
        refine WL_is (X_lss_t rfl rfl rfl (by omega)) rfl rfl rfl ?_
        (repeat (first | refine WL_nil ?_ | refine Then_normal ?_ | refine W_seq ?_ | refine W_skip ?_ | refine W_block ?_ | refine W_true rfl ?_))
        skip
        refine W_region rfl ?_
        refine WL_is (X_move rfl rfl) rfl rfl rfl ?_
        refine WL_is (X_move rfl rfl) rfl rfl rfl ?_
        refine WL_is (X_index_row rfl rfl (by exact idx0) rfl rfl rfl (by omega)) rfl rfl rfl ?_
        refine WL_is (X_load_spot rfl rfl (by exact idx0) (by omega) rfl (by omega) rfl) rfl rfl rfl ?_
        refine WL_is (X_assign rfl rfl) rfl rfl rfl ?_
        (repeat (first | refine WL_nil ?_ | refine Then_normal ?_ | refine W_seq ?_))
        skip
        refine W_region rfl ?_
        refine WL_is (X_move rfl rfl) rfl rfl rfl ?_
        refine WL_is (X_move rfl rfl) rfl rfl rfl ?_
        refine WL_callR [_] _ rfl rfl rfl Try.func24 rfl rfl rfl rfl (perm_front 1 rfl) (clos_fn h3 b L[j] p) ?_
        rintro r _ h4 hl4 ⟨rfl, rfl⟩
        simp only [List.cons_append, List.nil_append, List.eraseIdx_cons_zero]
        have hks := keep_succ (p := p) hlt
        rw [← hLj] at hks
        by_cases he : L[j] = p
        · rw [decide_eq_true he]
          rw [if_pos he, List.append_nil] at hks
          refine WL_is (X_not rfl rfl) rfl rfl rfl ?_
          (repeat (first | refine WL_nil ?_ | refine Then_normal ?_ | refine W_skip ?_ | refine inBlk_normal ?_ | refine W_false rfl ?_))
          skip
          refine W_region rfl ?_
          refine WL_is (X_move rfl rfl) rfl rfl rfl ?_
          refine WL_is (X_addW rfl rfl rfl (by exact wrap_i64_in (by omega) (by omega))) rfl rfl rfl ?_
          refine WL_is (X_assign rfl rfl) rfl rfl rfl ?_
          (repeat (first | refine WL_nil ?_ | refine Then_normal ?_))
          refine ⟨⟨j + 1, i, L, h4⟩, ⟨(by repeat (first | exact SubE_nil | refine SubE_cons rfl ?_)), rfl, SubR.of_perm (.swap _ _ _), rfl⟩, ⟨by dsimp only; omega, by dsimp only; omega, hL, by dsimp only; rw [htk, hks], ?_⟩, by dsimp only; omega⟩
          dsimp only
          rw [← List.drop_drop, ← List.drop_drop, hdr]
        · rw [decide_eq_false he]
          rw [if_neg he] at hks
          refine WL_is (X_not rfl rfl) rfl rfl rfl ?_
          (repeat (first | refine WL_nil ?_ | refine Then_normal ?_ | refine W_seq ?_ | refine W_true rfl ?_))
          skip
          refine W_region rfl ?_
          refine WL_is (X_move rfl rfl) rfl rfl rfl ?_
          refine WL_is (X_move rfl rfl) rfl rfl rfl ?_
          refine WL_is (X_move rfl rfl) rfl rfl rfl ?_
          refine WL_is (X_index_row rfl rfl (by exact idx1) rfl rfl rfl (by omega)) rfl rfl rfl ?_
          refine WL_store_spot rfl rfl rfl (by exact idx1) (by omega) rfl rfl rfl rfl rfl (by omega) rfl rfl rfl rfl ?_
          (repeat (first | refine WL_nil ?_ | refine Then_normal ?_))
          skip
          refine W_region rfl ?_
          refine WL_is (X_move rfl rfl) rfl rfl rfl ?_
          refine WL_is (X_addW rfl rfl rfl (by exact wrap_i64_in (by omega) (by omega))) rfl rfl rfl ?_
          refine WL_is (X_assign rfl rfl) rfl rfl rfl ?_
          (repeat (first | refine WL_nil ?_ | refine Then_normal ?_ | refine inBlk_normal ?_))
          skip
          refine W_region rfl ?_
          refine WL_is (X_move rfl rfl) rfl rfl rfl ?_
          refine WL_is (X_addW rfl rfl rfl (by exact wrap_i64_in (by omega) (by omega))) rfl rfl rfl ?_
          refine WL_is (X_assign rfl rfl) rfl rfl rfl ?_
          (repeat (first | refine WL_nil ?_ | refine Then_normal ?_))
          refine ⟨⟨j + 1, i + 1, L.set i L[j], h4⟩, ⟨(by repeat (first | exact SubE_nil | refine SubE_cons rfl ?_)), rfl, SubR.of_perm (.swap _ _ _), rfl⟩, ⟨by dsimp only; omega, by dsimp only; omega, by simpa using hL, ?_, ?_⟩, by dsimp only; omega⟩
          · dsimp only
            rw [hks, ← htk, List.take_set, List.take_succ_eq_append_getElem (by omega), List.set_append_right _ _ (by simp; omega)]
            have : i - (L.take i).length = 0 := by simp; omega
            rw [this]; rfl
          · dsimp only
            rw [List.drop_set_of_lt (by omega), ← List.drop_drop, ← List.drop_drop, hdr]
      · have hje : j = q.length := by omega
        subst hje
        rw [List.take_length] at htk
        have hik : i = (keep q p).length := by rw [← htk]; simp; omega
        refine W_updE (UpdE.rowblk 0 rfl (by omega)) ?_
        rintro _ h3 - ⟨rfl, rb', cap', c, e1, hmc, hcl, hct, hcx, rfl⟩
        simp only [Value.slice.injEq, Option.some.injEq, Addr.mk.injEq] at e1
        obtain ⟨⟨e1, -, -⟩, -, e3⟩ := e1
        subst e1; subst e3
        simp only [List.set_cons_zero]
        (repeat (first | refine W_seq ?_))
        refine W_region rfl ?_
        refine WL_is (X_move rfl rfl) rfl rfl rfl ?_
        refine WL_is (X_move rfl rfl) rfl rfl rfl ?_
        refine WL_is (X_len rfl rfl rfl) rfl rfl rfl ?_
        refine WL_is (X_lss_f rfl rfl rfl (by omega)) rfl rfl rfl ?_
        (repeat (first | refine WL_nil ?_ | refine Then_normal ?_ | refine W_seq ?_ | refine W_exit ?_ | refine Then_exit ?_ | refine inBlk_here ?_ | refine W_false rfl ?_))
        skip
        refine W_region rfl ?_
        refine WL_is (X_move rfl rfl) rfl rfl rfl ?_
        refine WL_is (X_move rfl rfl) rfl rfl rfl ?_
        refine WL_is (X_sliceLo (sz := 1) rfl rfl rfl rfl rfl (by omega) (by omega)) rfl rfl rfl ?_
        refine WL_clear rfl rfl rfl rfl rfl rfl (by omega) (by exact idx0) (by omega) rfl rfl ?_
        (repeat (first | refine WL_nil ?_ | refine Then_normal ?_ | refine W_seq ?_))
        skip
        refine W_region rfl ?_
        refine WL_is (X_move rfl rfl) rfl rfl rfl ?_
        refine WL_is (X_move rfl rfl) rfl rfl rfl ?_
        refine WL_is (X_sliceHi (sz := 1) rfl rfl rfl rfl rfl (by omega)) rfl rfl rfl ?_
        refine WL_is (X_assign rfl rfl) rfl rfl rfl ?_
        (repeat (first | refine WL_nil ?_ | refine Then_normal ?_ | refine W_ret ?_))
        subst hik
        refine Body_vals (.cons (.tmp rfl) .nil) rfl ?_
        refine UpdE.of (Upd.blkrow (cap := cap) (m := (keep q p).length) (sz := 1) (xs := (keep q p).flatMap encI) 0 rfl (by omega) (by rw [wr_length]; exact hcl) ?_) rfl
        apply List.ext_getElem?
        intro t
        rw [← htk, flatMapI, List.getElem?_take]
        rw [flatMapI, hL, Nat.mul_one] at hct
        split
        · rename_i ht
          have ht' : t < (keep q p).length := by simp at ht; omega
          rw [wr_get (by simp; omega), if_neg (by omega), List.map_take, ← hct, List.getElem?_take, if_pos (by omega), List.getElem?_take, if_pos (by omega)]
        · rename_i ht
          rw [List.getElem?_eq_none]
          simp at ht ⊢; omega
  · simp only [if_neg hf]
    refine WL_is (X_assign rfl rfl) rfl rfl rfl ?_
    (repeat (first | refine WL_nil ?_ | refine Then_normal ?_ | refine W_seq ?_))
    skip
    refine W_region rfl ?_
    refine WL_is (X_move rfl rfl) rfl rfl rfl ?_
    refine WL_is (X_eql_t rfl rfl rfl (by omega)) rfl rfl rfl ?_
    (repeat (first | refine WL_nil ?_ | refine Then_normal ?_ | refine W_seq ?_ | refine W_true rfl ?_))
    skip
    refine W_region rfl ?_
    refine WL_is (X_move rfl rfl) rfl rfl rfl ?_
    refine WL_is (X_assign rfl rfl) rfl rfl rfl ?_
    (repeat (first | refine WL_nil ?_ | refine Then_normal ?_ | refine W_ret ?_ | refine Then_ret ?_))
    refine Body_end rfl rfl rfl (SubR.refl _) ?_
    have : fstI q p ≤ q.length := List.findIdx_le_length
    rw [keep_all (by omega)]
end Go.Proofs.Ytgbcdjofkfdgnaa
