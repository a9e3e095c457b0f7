/- Values under keys: where a key stands. -/
import Derived.Test.YtakdjabamjgcfaaXattrB
namespace Go.Proofs.Ytakdjabamjgcfaa
set_option maxRecDepth 4000
open Go Go.Par PH
theorem cmpK_lt {a b : ByteArray} : cmpK a b < 0 ↔ ltK a b = true := by
  unfold cmpK
  by_cases h : ltK a b = true
  · rw [if_pos h]; simp [h]
  · rw [if_neg h]
    have : ¬ ltK a b = true := h
    by_cases k : ltK b a = true
    · rw [if_pos k]; simp [h]
    · rw [if_neg k]; simp [h]
theorem cmpK_eq {a b : ByteArray} : cmpK a b = 0 ↔ a = b := by
  unfold cmpK
  by_cases h : ltK a b = true
  · rw [if_pos h]; simp; intro e; rw [e, ltK_irrefl] at h; cases h
  · rw [if_neg h]
    by_cases k : ltK b a = true
    · rw [if_pos k]; simp; intro e; rw [e, ltK_irrefl] at k; cases k
    · rw [if_neg k]
      have := ltK_eq (by simpa using h) (by simpa using k)
      simp [this]
attribute [local irreducible] W WL Does Exec Body Then inBlk RG WR row obj pblk
set_option maxHeartbeats 1000000 in
theorem bsf_fn (h : PH) (l : Xs) (v : Value) (k : ByteArray) (hv : Sl encX 2 h v l) (hl : l.length ≤ 1000000) (hs : srt l) :
    Does Try.prog 30 [v, .string k, .func (.func 31) #[] #[]] [] h (Ret fun r _ _ => r = .tuple #[.int .i64 (lbX l k : Int), .bool (isX l k)]) := by
  have hle := lbX_le l k
  have hat := isX_at (k := k) hs
  refine Does_of_W Try.func30 rfl (n := 49) rfl rfl (by simp only [argE, Nat.reduceAdd] <;> rfl) ?_
  (repeat (first | refine W_seq ?_))
  skip
  refine W_region rfl ?_
  refine WL_is (X_assign rfl rfl) rfl rfl rfl ?_
  refine WL_is (X_assign rfl rfl) rfl rfl rfl ?_
  (repeat (first | refine WL_nil ?_ | refine Then_normal ?_ | refine W_seq ?_))
  skip
  refine W_region rfl ?_
  refine WL_is (X_move rfl rfl) rfl rfl rfl ?_
  refine WL_is (X_len_sl rfl rfl rfl (by assumption)) rfl rfl rfl ?_
  refine WL_is (X_assign rfl rfl) rfl rfl rfl ?_
  (repeat (first | refine WL_nil ?_ | refine Then_normal ?_ | refine W_seq ?_))
  skip
  refine W_region rfl ?_
  refine WL_is (X_move rfl rfl) rfl rfl rfl ?_
  refine WL_is (X_assign rfl rfl) rfl rfl rfl ?_
  refine WL_is (X_assign rfl rfl) rfl rfl rfl ?_
  (repeat (first | refine WL_nil ?_ | refine Then_normal ?_ | refine W_seq ?_ | refine W_block ?_))
  refine W_loop (X := BX) (L := fun x => ⟨[(9, .int .i64 (x.i : Int)), (10, .int .i64 (x.j : Int)), (8, .int .i64 (l.length : Int)), (0, v), (1, .string k), (2, .func (.func 31) #[] #[])], [], [], h⟩) (p := fun x => x.i ≤ lbX l k ∧ lbX l k ≤ x.j ∧ x.j ≤ l.length) (μ := fun x => x.j - x.i) ⟨0, l.length⟩ ⟨(by repeat (first | exact SubE_nil | refine SubE_cons rfl ?_)), rfl, SubR.refl _, rfl⟩ ⟨Nat.zero_le _, hle, Nat.le_refl _⟩ ?_
  rintro ⟨i, j⟩ ⟨h1, h2, h3⟩
  dsimp only at h1 h2 h3 ⊢
  by_cases hlt : (i : Int) < (j : Int)
  · have hm : ((i : Int) + (j : Int)) / 2 = (((i + j) / 2 : Nat) : Int) := by omega
    have hml : (i + j) / 2 < l.length := by omega
    obtain ⟨q, hq⟩ : ∃ q, q = (i + j) / 2 := ⟨_, rfl⟩
    rw [← hq] at hm hml
    have hc := find1_fn h l[q] k
    have hlq := lbX_lt (k := k) hs hml
    rw [← cmpK_lt] at hlq
    (repeat (first | refine W_seq ?_))
    refine W_region rfl ?_
    refine WL_is (X_move rfl rfl) rfl rfl rfl ?_
    refine WL_is (X_move rfl rfl) rfl rfl rfl ?_
    refine WL_is (X_lss_t rfl rfl rfl (by omega)) rfl rfl rfl ?_
    (repeat (first | refine WL_nil ?_ | refine Then_normal ?_ | refine W_seq ?_ | refine W_skip ?_ | refine W_block ?_ | refine W_true rfl ?_))
    skip
    refine W_region rfl ?_
    refine WL_is (X_move rfl rfl) rfl rfl rfl ?_
    refine WL_is (X_move rfl rfl) rfl rfl rfl ?_
    refine WL_is (X_addW rfl rfl rfl (by exact wrap_i64_in (by omega) (by omega))) rfl rfl rfl ?_
    refine WL_is (X_convW rfl rfl rfl rfl (by exact wrap_u64_in (by omega) (by omega))) rfl rfl rfl ?_
    refine WL_is (X_shrW rfl rfl rfl (by omega) (by decide) (by simp only [Int.toNat_one, Int.reducePow] <;> rfl)) rfl rfl rfl ?_
    refine WL_is (X_convW rfl rfl rfl rfl (by exact wrap_i64_in (by omega) (by omega))) rfl rfl rfl ?_
    rw [hm]
    refine WL_is (X_assign rfl rfl) rfl rfl rfl ?_
    (repeat (first | refine WL_nil ?_ | refine Then_normal ?_ | refine W_seq ?_))
    skip
    refine W_region rfl ?_
    refine WL_is (X_move rfl rfl) rfl rfl rfl ?_
    refine WL_is (X_move rfl rfl) rfl rfl rfl ?_
    refine WL_is (X_move rfl rfl) rfl rfl rfl ?_
    (refine WL_index_slN rfl rfl rfl rfl rfl (by assumption) (by omega) rfl rfl rfl ?_; intro p_ hp_)
    refine WL_is (X_loadA_at rfl rfl (by assumption) rfl rfl rfl) rfl rfl rfl ?_
    refine WL_is (X_move rfl rfl) rfl rfl rfl ?_
    refine WL_is (X_callv rfl rfl rfl Try.func31 rfl (by simpa [encX] using hc)) rfl rfl rfl ?_
    by_cases hcl : cmpK l[q].1 k < 0
    · have := hlq.1 hcl
      refine WL_is (X_lss_t rfl rfl rfl (by omega)) rfl rfl rfl ?_
      (repeat (first | refine WL_nil ?_ | refine Then_normal ?_ | refine W_true rfl ?_))
      skip
      refine W_region rfl ?_
      refine WL_is (X_move rfl rfl) rfl rfl rfl ?_
      refine WL_is (X_addW rfl rfl rfl (by exact wrap_i64_in (by omega) (by omega))) rfl rfl rfl ?_
      refine WL_is (X_assign rfl rfl) rfl rfl rfl ?_
      (repeat (first | refine WL_nil ?_ | refine Then_normal ?_ | refine inBlk_normal ?_))
      exact ⟨⟨q + 1, j⟩, ⟨(by repeat (first | exact SubE_nil | refine SubE_cons rfl ?_)), rfl, SubR.refl _, rfl⟩, ⟨by dsimp only; omega, h2, h3⟩, by dsimp only; omega⟩
    · have : ¬ q < lbX l k := fun hh => hcl (hlq.2 hh)
      refine WL_is (X_lss_f rfl rfl rfl (by omega)) rfl rfl rfl ?_
      (repeat (first | refine WL_nil ?_ | refine Then_normal ?_ | refine W_false rfl ?_))
      skip
      refine W_region rfl ?_
      refine WL_is (X_move rfl rfl) rfl rfl rfl ?_
      refine WL_is (X_assign rfl rfl) rfl rfl rfl ?_
      (repeat (first | refine WL_nil ?_ | refine Then_normal ?_ | refine inBlk_normal ?_))
      exact ⟨⟨i, q⟩, ⟨(by repeat (first | exact SubE_nil | refine SubE_cons rfl ?_)), rfl, SubR.refl _, rfl⟩, ⟨h1, by dsimp only; omega, by dsimp only; omega⟩, by dsimp only; omega⟩
  · have hi : i = lbX l k := by omega
    subst hi
    by_cases hlt2 : ((lbX l k : Nat) : Int) < (l.length : Int)
    · have hlb : lbX l k < l.length := by omega
      rw [List.getElem?_eq_getElem hlb] at hat
      have hc := find1_fn h l[lbX l k] k
      by_cases he : cmpK l[lbX l k].1 k = 0
      · (repeat (first | refine W_seq ?_))
        refine W_region rfl ?_
        refine WL_is (X_move rfl rfl) rfl rfl rfl ?_
        refine WL_is (X_move rfl rfl) rfl rfl rfl ?_
        refine WL_is (X_lss_f rfl rfl rfl (by omega)) rfl rfl rfl ?_
        (repeat (first | refine WL_nil ?_ | refine Then_normal ?_ | refine W_seq ?_ | refine W_exit ?_ | refine Then_exit ?_ | refine inBlk_here ?_ | refine W_false rfl ?_))
        skip
        refine W_region rfl ?_
        refine WL_is (X_move rfl rfl) rfl rfl rfl ?_
        refine WL_is (X_move rfl rfl) rfl rfl rfl ?_
        refine WL_is (X_move rfl rfl) rfl rfl rfl ?_
        refine WL_is (X_lss_t rfl rfl rfl (by omega)) rfl rfl rfl ?_
        refine WL_is (X_move rfl rfl) rfl rfl rfl ?_
        refine WL_is (X_move rfl rfl) rfl rfl rfl ?_
        refine WL_is (X_move rfl rfl) rfl rfl rfl ?_
        refine WL_is (X_move rfl rfl) rfl rfl rfl ?_
        (refine WL_index_slN rfl rfl rfl rfl rfl (by assumption) (by omega) rfl rfl rfl ?_; intro p_ hp_)
        refine WL_is (X_loadA_at rfl rfl (by assumption) rfl rfl rfl) rfl rfl rfl ?_
        refine WL_is (X_move rfl rfl) rfl rfl rfl ?_
        try refine WL_off rfl rfl rfl ?_
        refine WL_is (X_callv rfl rfl rfl Try.func31 rfl (by simpa [encX] using hc)) rfl rfl rfl ?_
        refine WL_is (X_eql_t rfl rfl rfl (by omega)) rfl rfl rfl ?_
        refine WL_is (X_pick_t rfl rfl rfl) rfl rfl rfl ?_
        refine WL_is (X_assign rfl rfl) rfl rfl rfl ?_
        refine WL_is (X_assign rfl rfl) rfl rfl rfl ?_
        (repeat (first | refine WL_nil ?_ | refine Then_normal ?_ | refine W_ret ?_))
        refine Body_end rfl rfl rfl (SubR.none _) ?_
        rw [hat]; simp [eqX, cmpK_eq.1 he]
      · (repeat (first | refine W_seq ?_))
        refine W_region rfl ?_
        refine WL_is (X_move rfl rfl) rfl rfl rfl ?_
        refine WL_is (X_move rfl rfl) rfl rfl rfl ?_
        refine WL_is (X_lss_f rfl rfl rfl (by omega)) rfl rfl rfl ?_
        (repeat (first | refine WL_nil ?_ | refine Then_normal ?_ | refine W_seq ?_ | refine W_exit ?_ | refine Then_exit ?_ | refine inBlk_here ?_ | refine W_false rfl ?_))
        skip
        refine W_region rfl ?_
        refine WL_is (X_move rfl rfl) rfl rfl rfl ?_
        refine WL_is (X_move rfl rfl) rfl rfl rfl ?_
        refine WL_is (X_move rfl rfl) rfl rfl rfl ?_
        refine WL_is (X_lss_t rfl rfl rfl (by omega)) rfl rfl rfl ?_
        refine WL_is (X_move rfl rfl) rfl rfl rfl ?_
        refine WL_is (X_move rfl rfl) rfl rfl rfl ?_
        refine WL_is (X_move rfl rfl) rfl rfl rfl ?_
        refine WL_is (X_move rfl rfl) rfl rfl rfl ?_
        (refine WL_index_slN rfl rfl rfl rfl rfl (by assumption) (by omega) rfl rfl rfl ?_; intro p_ hp_)
        refine WL_is (X_loadA_at rfl rfl (by assumption) rfl rfl rfl) rfl rfl rfl ?_
        refine WL_is (X_move rfl rfl) rfl rfl rfl ?_
        try refine WL_off rfl rfl rfl ?_
        refine WL_is (X_callv rfl rfl rfl Try.func31 rfl (by simpa [encX] using hc)) rfl rfl rfl ?_
        refine WL_is (X_eql_f rfl rfl rfl (by omega)) rfl rfl rfl ?_
        refine WL_is (X_pick_t rfl rfl rfl) rfl rfl rfl ?_
        refine WL_is (X_assign rfl rfl) rfl rfl rfl ?_
        refine WL_is (X_assign rfl rfl) rfl rfl rfl ?_
        (repeat (first | refine WL_nil ?_ | refine Then_normal ?_ | refine W_ret ?_))
        refine Body_end rfl rfl rfl (SubR.none _) ?_
        rw [hat]
        have : ¬ l[lbX l k].1 = k := fun e => he (cmpK_eq.2 e)
        simp [eqX, this]
    · rw [List.getElem?_eq_none (by omega)] at hat
      (repeat (first | refine W_seq ?_))
      refine W_region rfl ?_
      refine WL_is (X_move rfl rfl) rfl rfl rfl ?_
      refine WL_is (X_move rfl rfl) rfl rfl rfl ?_
      refine WL_is (X_lss_f rfl rfl rfl (by omega)) rfl rfl rfl ?_
      (repeat (first | refine WL_nil ?_ | refine Then_normal ?_ | refine W_seq ?_ | refine W_exit ?_ | refine Then_exit ?_ | refine inBlk_here ?_ | refine W_false rfl ?_))
      skip
      refine W_region rfl ?_
      refine WL_is (X_move rfl rfl) rfl rfl rfl ?_
      refine WL_is (X_move rfl rfl) rfl rfl rfl ?_
      refine WL_is (X_move rfl rfl) rfl rfl rfl ?_
      refine WL_is (X_lss_f rfl rfl rfl (by omega)) rfl rfl rfl ?_
      refine WL_is (X_move rfl rfl) rfl rfl rfl ?_
      refine WL_off rfl rfl rfl ?_
      refine WL_off rfl rfl rfl ?_
      refine WL_off rfl rfl rfl ?_
      refine WL_off rfl rfl rfl ?_
      refine WL_off rfl rfl rfl ?_
      refine WL_off rfl rfl rfl ?_
      refine WL_off rfl rfl rfl ?_
      refine WL_off rfl rfl rfl ?_
      refine WL_is (X_pick_f rfl rfl rfl) rfl rfl rfl ?_
      refine WL_is (X_assign rfl rfl) rfl rfl rfl ?_
      refine WL_is (X_assign rfl rfl) rfl rfl rfl ?_
      (repeat (first | refine WL_nil ?_ | refine Then_normal ?_ | refine W_ret ?_))
      refine Body_end rfl rfl rfl (SubR.none _) ?_
      rw [hat]; rfl
theorem find_fn (h : PH) (l : Xs) (v : Value) (k : ByteArray) (hv : Sl encX 2 h v l) (hl : l.length ≤ 1000000) (hs : srt l) :
    Does Try.prog 23 [v, .string k] [] h (Ret fun r _ _ => r = .tuple #[.int .i64 (lbX l k : Int), .bool (isX l k)]) := by
  have hc := bsf_fn h l v k hv hl hs
  refine Does_of_W Try.func23 rfl (n := 11) rfl rfl (by simp only [argE, Nat.reduceAdd] <;> rfl) ?_
  (repeat (first | refine W_seq ?_))
  skip
  refine W_region rfl ?_
  refine WL_is (X_assign rfl rfl) rfl rfl rfl ?_
  refine WL_is (X_assign rfl rfl) rfl rfl rfl ?_
  (repeat (first | refine WL_nil ?_ | refine Then_normal ?_ | refine W_seq ?_))
  skip
  refine W_region rfl ?_
  refine WL_is (X_move rfl rfl) rfl rfl rfl ?_
  refine WL_is (X_move rfl rfl) rfl rfl rfl ?_
  refine WL_is (X_callv rfl rfl rfl Try.func30 rfl (by assumption)) rfl rfl rfl ?_
  refine WL_is (X_extract rfl rfl rfl) rfl rfl rfl ?_
  refine WL_is (X_extract rfl rfl rfl) rfl rfl rfl ?_
  refine WL_is (X_assign rfl rfl) rfl rfl rfl ?_
  refine WL_is (X_assign rfl rfl) rfl rfl rfl ?_
  (repeat (first | refine WL_nil ?_ | refine Then_normal ?_ | refine W_ret ?_))
  refine Body_end rfl rfl rfl (SubR.none _) ?_
  rfl
theorem any_of_mem_take {α : Type} {p : α → Bool} {l : List α} {k : Nat} (h : (l.take k).any p = true) : l.any p = true := by
  rw [List.any_eq_true] at *
  obtain ⟨x, hx, hp⟩ := h
  exact ⟨x, List.mem_of_mem_take hx, hp⟩
theorem isX_take {l : Xs} {k : ByteArray} {j : Nat} (hj : j < l.length) : isX (l.take (j + 1)) k = (isX (l.take j) k || decide (l[j].1 = k)) := by
  unfold isX
  rw [List.take_add_one, List.getElem?_eq_getElem hj, List.any_append]; simp only [Option.toList_some, List.any_cons, List.any_nil, Bool.or_false]
set_option maxHeartbeats 400000 in
theorem findX_ref (h : PH) (l : Xs) (v : Value) (k : ByteArray) (hv : Sl encX 2 h v l) (hl : l.length ≤ 1000000) (hs : srt l) :
    Does Try.prog 25 [v, .string k] [] h (Ret fun r _ _ => r = .int .i64 (if isX l k then (lbX l k : Int) else -1)) := by
  have hat := isX_at (k := k) hs
  refine Does_of_W Try.func25 rfl (n := 20) rfl rfl (by simp only [argE, Nat.reduceAdd] <;> rfl) ?_
  (repeat (first | refine W_seq ?_))
  skip
  refine W_region rfl ?_
  refine WL_is (X_assign rfl rfl) rfl rfl rfl ?_
  (repeat (first | refine WL_nil ?_ | refine Then_normal ?_ | refine W_seq ?_))
  skip
  refine W_region rfl ?_
  refine WL_is (X_assign rfl rfl) rfl rfl rfl ?_
  (repeat (first | refine WL_nil ?_ | refine Then_normal ?_ | refine W_block ?_))
  refine W_loop (X := Nat) (L := fun j => ⟨[(5, .int .i64 (j : Int)), (0, v), (1, .string k)], [], [], h⟩) (p := fun j => j ≤ l.length ∧ isX (l.take j) k = false) (μ := fun j => l.length - j) 0 ⟨(by repeat (first | exact SubE_nil | refine SubE_cons rfl ?_)), rfl, SubR.refl _, rfl⟩ ⟨Nat.zero_le _, by simp [isX]⟩ ?_
  rintro j ⟨hj, hgood⟩
  by_cases hlt : j < l.length
  · have htk := isX_take (k := k) hlt
    rw [hgood, Bool.false_or] at htk
    (repeat (first | refine W_seq ?_))
    refine W_region rfl ?_
    refine WL_is (X_move rfl rfl) rfl rfl rfl ?_
    refine WL_is (X_move rfl rfl) rfl rfl rfl ?_
    refine WL_is (X_len_sl rfl rfl rfl (by assumption)) rfl rfl rfl ?_
    refine WL_is (X_lss_t rfl rfl rfl (by omega)) rfl rfl rfl ?_
    (repeat (first | refine WL_nil ?_ | refine Then_normal ?_ | refine W_seq ?_ | refine W_skip ?_ | refine W_block ?_ | refine W_true rfl ?_))
    by_cases he : l[j].1 = k
    · have hb : (l[j].1 == k) = true := by rw [beqB_iff, decide_eq_true he]
      skip
      refine W_region rfl ?_
      refine WL_is (X_move rfl rfl) rfl rfl rfl ?_
      refine WL_is (X_move rfl rfl) rfl rfl rfl ?_
      (refine WL_index_slN rfl rfl rfl rfl rfl (by assumption) (by omega) rfl rfl rfl ?_; intro p_ hp_)
      (refine WL_fieldAddr_at rfl rfl (by assumption) rfl rfl rfl rfl ?_; intro p_ hp_)
      refine WL_is (X_load1_at rfl rfl (by assumption) rfl rfl) rfl rfl rfl ?_
      refine WL_is (X_move rfl rfl) rfl rfl rfl ?_
      refine WL_is (X_eqS_c rfl rfl rfl (by assumption)) rfl rfl rfl ?_
      (repeat (first | refine WL_nil ?_ | refine Then_normal ?_ | refine W_seq ?_ | refine W_true rfl ?_))
      skip
      refine W_region rfl ?_
      refine WL_is (X_move rfl rfl) rfl rfl rfl ?_
      refine WL_is (X_assign rfl rfl) rfl rfl rfl ?_
      (repeat (first | refine WL_nil ?_ | refine Then_normal ?_ | refine W_ret ?_ | refine Then_ret ?_ | refine inBlk_ret ?_))
      refine Body_end rfl rfl rfl (SubR.none _) ?_
      have hx : isX l k = true := by
        rw [decide_eq_true he] at htk
        unfold isX at htk ⊢
        exact any_of_mem_take htk
      have hlb : lbX l k = j := by
        have h1 : ¬ j < lbX l k := fun hh => by
          have := (lbX_lt (k := k) hs hlt).2 hh
          rw [he, ltK_irrefl] at this; cases this
        have h2 : ¬ lbX l k < j := fun hh => by
          have hlb' : lbX l k < l.length := by omega
          rw [hx, List.getElem?_eq_getElem hlb'] at hat
          have e2 : l[lbX l k].1 = k := by simpa [eqX] using hat.symm
          have : isX (l.take j) k = true := by
            unfold isX
            rw [List.any_eq_true]
            exact ⟨l[lbX l k], by rw [List.mem_take_iff_getElem]; exact ⟨lbX l k, by omega, rfl⟩, by simpa using e2⟩
          rw [this] at hgood; cases hgood
        omega
      rw [hx, if_pos rfl, hlb]
    · have hb : (l[j].1 == k) = false := by rw [beqB_iff, decide_eq_false he]
      skip
      refine W_region rfl ?_
      refine WL_is (X_move rfl rfl) rfl rfl rfl ?_
      refine WL_is (X_move rfl rfl) rfl rfl rfl ?_
      (refine WL_index_slN rfl rfl rfl rfl rfl (by assumption) (by omega) rfl rfl rfl ?_; intro p_ hp_)
      (refine WL_fieldAddr_at rfl rfl (by assumption) rfl rfl rfl rfl ?_; intro p_ hp_)
      refine WL_is (X_load1_at rfl rfl (by assumption) rfl rfl) rfl rfl rfl ?_
      refine WL_is (X_move rfl rfl) rfl rfl rfl ?_
      refine WL_is (X_eqS_c rfl rfl rfl (by assumption)) rfl rfl rfl ?_
      (repeat (first | refine WL_nil ?_ | refine Then_normal ?_ | refine W_skip ?_ | refine inBlk_normal ?_ | refine W_false rfl ?_))
      skip
      refine W_region rfl ?_
      refine WL_is (X_move rfl rfl) rfl rfl rfl ?_
      refine WL_is (X_addW rfl rfl rfl (by exact wrap_i64_in (by omega) (by omega))) rfl rfl rfl ?_
      refine WL_is (X_assign rfl rfl) rfl rfl rfl ?_
      (repeat (first | refine WL_nil ?_ | refine Then_normal ?_))
      exact ⟨j + 1, ⟨(by repeat (first | exact SubE_nil | refine SubE_cons rfl ?_)), rfl, SubR.refl _, rfl⟩, ⟨by omega, by rw [htk, decide_eq_false he]⟩, by omega⟩
  · rw [List.take_of_length_le (by omega)] at hgood
    (repeat (first | refine W_seq ?_))
    refine W_region rfl ?_
    refine WL_is (X_move rfl rfl) rfl rfl rfl ?_
    refine WL_is (X_move rfl rfl) rfl rfl rfl ?_
    refine WL_is (X_len_sl rfl rfl rfl (by assumption)) rfl rfl rfl ?_
    refine WL_is (X_lss_f rfl rfl rfl (by omega)) rfl rfl rfl ?_
    (repeat (first | refine WL_nil ?_ | refine Then_normal ?_ | refine W_seq ?_ | refine W_exit ?_ | refine Then_exit ?_ | refine inBlk_here ?_ | refine W_false rfl ?_))
    skip
    refine W_region rfl ?_
    refine WL_is (X_assign rfl rfl) rfl rfl rfl ?_
    (repeat (first | refine WL_nil ?_ | refine Then_normal ?_ | refine W_ret ?_))
    refine Body_end rfl rfl rfl (SubR.none _) ?_
    rw [hgood]; rfl
end Go.Proofs.Ytakdjabamjgcfaa
