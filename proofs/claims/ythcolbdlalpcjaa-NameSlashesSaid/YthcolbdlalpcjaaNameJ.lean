/- Names and paths: strings joined. -/
import Derived.Test.YthcolbdlalpcjaaNameI
namespace Go.Proofs.Ythcolbdlalpcjaa
set_option maxRecDepth 4000
open Go Go.Par PH
def tailJ (l : List Bs) : Bs := l.flatMap fun x => 47 :: x
def joinP : List Bs → Bs
  | [] => []
  | x :: l => x ++ tailJ l
def sumT (l : List Bs) : Nat := (l.map List.length).sum
theorem sumT_cons (x : Bs) (l : List Bs) : sumT (x :: l) = x.length + sumT l := by simp [sumT]
theorem sumT_succ {l : List Bs} {j : Nat} (hj : j < l.length) : sumT (l.take (j + 1)) = sumT (l.take j) + l[j].length := by
  unfold sumT
  rw [take_succP hj, List.map_append, List.sum_append]
  simp only [List.map_cons, List.map_nil, List.sum_cons, List.sum_nil, Nat.add_zero]
theorem sumT_take (l : List Bs) (j : Nat) : sumT (l.take j) ≤ sumT l := by
  have : sumT (l.take j) + sumT (l.drop j) = sumT l := by
    unfold sumT
    rw [← List.sum_append, ← List.map_append, List.take_append_drop]
  omega
theorem sumT_at {l : List Bs} {j : Nat} (hj : j < l.length) : l[j].length ≤ sumT l := by
  have h1 := sumT_take l (j + 1)
  rw [sumT_succ hj] at h1
  omega
theorem tailJ_succ {l : List Bs} {j : Nat} (hj : j < l.length) : tailJ (l.take (j + 1)) = tailJ (l.take j) ++ (47 :: l[j]) := by
  unfold tailJ
  rw [take_succP hj, List.flatMap_append]
  simp only [List.flatMap_cons, List.flatMap_nil, List.append_nil]
theorem tailJ_len (l : List Bs) : (tailJ l).length = l.length + sumT l := by
  induction l with
  | nil => rfl
  | cons x l ih =>
    rw [sumT_cons]
    unfold tailJ at *
    simp only [List.flatMap_cons, List.length_append, List.length_cons, ih]; omega
theorem joinP_len (l : List Bs) : (joinP l).length ≤ l.length + sumT l := by
  cases l with
  | nil => simp [joinP]
  | cons x l => rw [sumT_cons]; simp only [joinP, List.length_append, List.length_cons, tailJ_len]; omega
theorem max_quo {n : Nat} (h1 : 2 ≤ n) (h2 : n ≤ 1000000) : (2 : Int) ≤ 9223372036854775807 / ((n : Int) - 1) ∧ 9223372036854775807 / ((n : Int) - 1) ≤ 9223372036854775807 := by
  constructor
  · rw [Int.le_ediv_iff_mul_le (by omega)]; omega
  · exact Int.ediv_le_self _ (by decide)
structure JX where
  j : Nat
  v : Value
  h : PH
attribute [local irreducible] W WL Does Exec Body Then inBlk RG WR row obj pblk
set_option maxHeartbeats 2000000 in
theorem sjoin_fn (h : PH) (ps : List Bs) (v : Value) (hv : Sl encP 1 h v ps) (hl : ps.length ≤ 1000000) (hs : sumT ps ≤ 10000000) :
    Does Try.prog 29 [v, .string ⟨#[47]⟩] [] h (Ret fun r _ _ => r = .string (mkB (joinP ps))) := by
  have h1s : ((⟨#[47]⟩ : ByteArray).size : Int) = 1 := rfl
  obtain ⟨va, vc, rfl⟩ := hv.shape
  refine Does_of_W Try.func29 rfl (n := 75) rfl rfl (by simp only [argE, Nat.reduceAdd] <;> rfl) ?_
  by_cases h0 : ps.length = 0
  · have h0i : (ps.length : Int) = 0 := by omega
    (repeat (first | refine W_seq ?_))
    skip
    refine W_region rfl ?_
    refine WL_is (X_assign rfl rfl) rfl rfl rfl ?_
    (repeat (first | refine WL_nil ?_ | refine Then_normal ?_ | refine W_seq ?_))
    skip
    refine W_region rfl ?_
    refine WL_is (X_move rfl rfl) rfl rfl rfl ?_
    refine WL_is (X_len_sl rfl rfl rfl (by assumption)) rfl rfl rfl ?_
    (repeat (first | refine WL_nil ?_ | refine Then_normal ?_ | refine W_seq ?_ | refine W_block ?_))
    skip
    refine W_region rfl ?_
    refine WL_is (X_eql_t rfl rfl rfl (by omega)) rfl rfl rfl ?_
    refine WL_is (X_assign rfl rfl) rfl rfl rfl ?_
    (repeat (first | refine WL_nil ?_ | refine Then_normal ?_ | refine W_seq ?_ | refine W_true rfl ?_))
    skip
    refine W_region rfl ?_
    refine WL_is (X_assign rfl rfl) rfl rfl rfl ?_
    (repeat (first | refine WL_nil ?_ | refine Then_normal ?_ | refine W_ret ?_ | refine Then_ret ?_ | refine inBlk_ret ?_))
    refine Body_end rfl rfl rfl (SubR.none _) ?_
    rw [List.eq_nil_of_length_eq_zero h0]; rfl
  · by_cases h1 : ps.length = 1
    · have h1i : (ps.length : Int) = 1 := by omega
      (repeat (first | refine W_seq ?_))
      skip
      refine W_region rfl ?_
      refine WL_is (X_assign rfl rfl) rfl rfl rfl ?_
      (repeat (first | refine WL_nil ?_ | refine Then_normal ?_ | refine W_seq ?_))
      skip
      refine W_region rfl ?_
      refine WL_is (X_move rfl rfl) rfl rfl rfl ?_
      refine WL_is (X_len_sl rfl rfl rfl (by assumption)) rfl rfl rfl ?_
      (repeat (first | refine WL_nil ?_ | refine Then_normal ?_ | refine W_seq ?_ | refine W_block ?_))
      skip
      refine W_region rfl ?_
      refine WL_is (X_eql_f rfl rfl rfl (by omega)) rfl rfl rfl ?_
      refine WL_is (X_assign rfl rfl) rfl rfl rfl ?_
      (repeat (first | refine WL_nil ?_ | refine Then_normal ?_ | refine W_seq ?_ | refine W_false rfl ?_))
      skip
      refine W_region rfl ?_
      refine WL_is (X_eql_t rfl rfl rfl (by omega)) rfl rfl rfl ?_
      refine WL_is (X_assign rfl rfl) rfl rfl rfl ?_
      (repeat (first | refine WL_nil ?_ | refine Then_normal ?_ | refine W_seq ?_ | refine W_true rfl ?_))
      skip
      refine W_region rfl ?_
      refine WL_is (X_move rfl rfl) rfl rfl rfl ?_
      (refine WL_index_sl rfl rfl rfl rfl rfl (by assumption) (by omega) (by omega) rfl rfl rfl ?_; intro p_ hp_)
      refine WL_is (X_load1_at rfl rfl (by assumption) rfl rfl) rfl rfl rfl ?_
      refine WL_is (X_assign rfl rfl) rfl rfl rfl ?_
      (repeat (first | refine WL_nil ?_ | refine Then_normal ?_ | refine W_ret ?_ | refine Then_ret ?_ | refine inBlk_ret ?_))
      refine Body_end rfl rfl rfl (SubR.none _) ?_
      match ps, h1 with
      | [x], _ => simp [joinP, tailJ]
    · have h2 : 2 ≤ ps.length := by omega
      obtain ⟨q1, q2⟩ := max_quo h2 hl
      (repeat (first | refine W_seq ?_))
      skip
      refine W_region rfl ?_
      refine WL_is (X_assign rfl rfl) rfl rfl rfl ?_
      (repeat (first | refine WL_nil ?_ | refine Then_normal ?_ | refine W_seq ?_))
      skip
      refine W_region rfl ?_
      refine WL_is (X_move rfl rfl) rfl rfl rfl ?_
      refine WL_is (X_len_sl rfl rfl rfl (by assumption)) rfl rfl rfl ?_
      (repeat (first | refine WL_nil ?_ | refine Then_normal ?_ | refine W_seq ?_ | refine W_block ?_))
      skip
      refine W_region rfl ?_
      refine WL_is (X_eql_f rfl rfl rfl (by omega)) rfl rfl rfl ?_
      refine WL_is (X_assign rfl rfl) rfl rfl rfl ?_
      (repeat (first | refine WL_nil ?_ | refine Then_normal ?_ | refine W_seq ?_ | refine W_false rfl ?_))
      skip
      refine W_region rfl ?_
      refine WL_is (X_eql_f rfl rfl rfl (by omega)) rfl rfl rfl ?_
      refine WL_is (X_assign rfl rfl) rfl rfl rfl ?_
      (repeat (first | refine WL_nil ?_ | refine Then_normal ?_ | refine W_seq ?_ | refine W_skip ?_ | refine inBlk_normal ?_ | refine W_false rfl ?_))
      skip
      refine W_region rfl ?_
      refine WL_is (X_assign rfl rfl) rfl rfl rfl ?_
      (repeat (first | refine WL_nil ?_ | refine Then_normal ?_ | refine W_seq ?_))
      skip
      refine W_region rfl ?_
      refine WL_is (X_move rfl rfl) rfl rfl rfl ?_
      refine WL_is (X_len_str rfl rfl rfl) rfl rfl rfl ?_
      refine WL_is (X_gtr_t rfl rfl rfl (by omega)) rfl rfl rfl ?_
      (repeat (first | refine WL_nil ?_ | refine Then_normal ?_ | refine W_seq ?_ | refine W_true rfl ?_))
      skip
      refine W_region rfl ?_
      refine WL_is (X_move rfl rfl) rfl rfl rfl ?_
      refine WL_is (X_len_str rfl rfl rfl) rfl rfl rfl ?_
      refine WL_is (X_move rfl rfl) rfl rfl rfl ?_
      refine WL_is (X_len_sl rfl rfl rfl (by assumption)) rfl rfl rfl ?_
      refine WL_is (X_subW rfl rfl rfl (by exact wrap_i64_in (by omega) (by omega))) rfl rfl rfl ?_
      refine WL_is (X_quoW rfl rfl rfl (by omega) (by omega) (by exact wrap_i64_in (by omega) (by omega))) rfl rfl rfl ?_
      refine WL_is (X_geq_f rfl rfl rfl (by omega)) rfl rfl rfl ?_
      (repeat (first | refine WL_nil ?_ | refine Then_normal ?_ | refine W_skip ?_ | refine W_false rfl ?_))
      skip
      refine W_region rfl ?_
      refine WL_is (X_move rfl rfl) rfl rfl rfl ?_
      refine WL_is (X_move rfl rfl) rfl rfl rfl ?_
      refine WL_is (X_len_str rfl rfl rfl) rfl rfl rfl ?_
      rw [h1s]
      refine WL_is (X_move rfl rfl) rfl rfl rfl ?_
      refine WL_is (X_len_sl rfl rfl rfl (by assumption)) rfl rfl rfl ?_
      refine WL_is (X_subW rfl rfl rfl (by exact wrap_i64_in (by omega) (by omega))) rfl rfl rfl ?_
      refine WL_is (X_mulW rfl rfl rfl (by exact wrap_i64_in (by omega) (by omega))) rfl rfl rfl ?_
      refine WL_is (X_addW rfl rfl rfl (by exact wrap_i64_in (by omega) (by omega))) rfl rfl rfl ?_
      refine WL_is (X_assign rfl rfl) rfl rfl rfl ?_
      (repeat (first | refine WL_nil ?_ | refine Then_normal ?_ | refine W_seq ?_))
      skip
      refine W_region rfl ?_
      refine WL_is (X_move rfl rfl) rfl rfl rfl ?_
      refine WL_is (X_len_sl rfl rfl rfl (by assumption)) rfl rfl rfl ?_
      refine WL_is (X_move rfl rfl) rfl rfl rfl ?_
      (repeat (first | refine WL_nil ?_ | refine Then_normal ?_ | refine W_block ?_))
      refine W_loop (X := Nat) (L := fun j => ⟨[(41, .int .i64 (j : Int)), (40, .int .i64 (ps.length : Int)), (39, .slice va ps.length vc), (5, .int .i64 ((ps.length - 1 + sumT (ps.take j) : Nat) : Int)), (0, .slice va ps.length vc), (1, .string ⟨#[47]⟩)], [], [], h⟩) (p := fun j => j ≤ ps.length) (μ := fun j => ps.length - j) 0 ⟨?_, rfl, SubR.refl _, rfl⟩ (Nat.zero_le _) ?_
      · have e5 : ((ps.length - 1 + sumT (ps.take 0) : Nat) : Int) = 0 + 1 * ((ps.length : Int) - 1) := by
          have : sumT (ps.take 0) = 0 := rfl
          rw [this]; omega
        rw [e5]; exact (by repeat (first | exact SubE_nil | refine SubE_cons rfl ?_))
      intro j hj
      have hst := sumT_take ps j
      by_cases hlt : j < ps.length
      · have hsu := sumT_succ hlt
        have hat := sumT_at hlt
        have hss := mkB_size ps[j]
        (repeat (first | refine W_seq ?_))
        refine W_region rfl ?_
        refine WL_is (X_lss_t rfl rfl rfl (by omega)) rfl rfl rfl ?_
        (repeat (first | refine WL_nil ?_ | refine Then_normal ?_ | refine W_seq ?_ | refine W_skip ?_ | refine W_block ?_ | refine W_true rfl ?_))
        skip
        refine W_region rfl ?_
        (refine WL_index_slN rfl rfl rfl rfl rfl (by assumption) (by omega) rfl rfl rfl ?_; intro p_ hp_)
        refine WL_is (X_load1_at rfl rfl (by assumption) rfl rfl) rfl rfl rfl ?_
        refine WL_is (X_assign rfl rfl) rfl rfl rfl ?_
        (repeat (first | refine WL_nil ?_ | refine Then_normal ?_ | refine W_seq ?_))
        skip
        refine W_region rfl ?_
        refine WL_is (X_move rfl rfl) rfl rfl rfl ?_
        refine WL_is (X_len_str rfl rfl rfl) rfl rfl rfl ?_
        refine WL_is (X_move rfl rfl) rfl rfl rfl ?_
        refine WL_is (X_subW rfl rfl rfl (by exact wrap_i64_in (by omega) (by omega))) rfl rfl rfl ?_
        refine WL_is (X_gtr_f rfl rfl rfl (by omega)) rfl rfl rfl ?_
        (repeat (first | refine WL_nil ?_ | refine Then_normal ?_ | refine W_skip ?_ | refine W_false rfl ?_))
        skip
        refine W_region rfl ?_
        refine WL_is (X_move rfl rfl) rfl rfl rfl ?_
        refine WL_is (X_move rfl rfl) rfl rfl rfl ?_
        refine WL_is (X_len_str rfl rfl rfl) rfl rfl rfl ?_
        refine WL_is (X_addW rfl rfl rfl (by exact wrap_i64_in (by omega) (by omega))) rfl rfl rfl ?_
        refine WL_is (X_assign rfl rfl) rfl rfl rfl ?_
        (repeat (first | refine WL_nil ?_ | refine Then_normal ?_ | refine inBlk_normal ?_))
        skip
        refine W_region rfl ?_
        refine WL_is (X_addW rfl rfl rfl (by exact wrap_i64_in (by omega) (by omega))) rfl rfl rfl ?_
        refine WL_is (X_move rfl rfl) rfl rfl rfl ?_
        (repeat (first | refine WL_nil ?_ | refine Then_normal ?_))
        refine ⟨j + 1, ⟨?_, rfl, SubR.refl _, rfl⟩, by omega, by omega⟩
        have e5 : ((ps.length - 1 + sumT (ps.take (j + 1)) : Nat) : Int) = ((ps.length - 1 + sumT (ps.take j) : Nat) : Int) + ((mkB ps[j]).size : Int) := by omega
        rw [e5]; exact (by repeat (first | exact SubE_nil | refine SubE_cons rfl ?_))
      · rw [List.take_of_length_le (by omega)]
        obtain ⟨x, l, rfl⟩ : ∃ x l, ps = x :: l := by cases ps with | nil => exact absurd rfl h0 | cons x l => exact ⟨x, l, rfl⟩
        have hfr := hv.from (k := 1) (by omega)
        rw [List.drop_one, List.tail_cons] at hfr
        have hlc : (x :: l).length - 1 = l.length := by simp
        have hsc := sumT_cons x l
        have hll : (x :: l).length = l.length + 1 := by simp
        (repeat (first | refine W_seq ?_))
        refine W_region rfl ?_
        refine WL_is (X_lss_f rfl rfl rfl (by omega)) rfl rfl rfl ?_
        (repeat (first | refine WL_nil ?_ | refine Then_normal ?_ | refine W_seq ?_ | refine W_exit ?_ | refine Then_exit ?_ | refine inBlk_here ?_ | refine W_false rfl ?_))
        skip
        refine W_region rfl ?_
        (refine WL_alloc rfl rfl rfl rfl rfl rfl ?_; intro b_)
        (repeat (first | refine WL_nil ?_ | refine Then_normal ?_ | refine W_seq ?_))
        skip
        refine W_region rfl ?_
        refine WL_is (X_move rfl rfl) rfl rfl rfl ?_
        generalize b_ = bb
        refine WL_callR [_] _ rfl rfl rfl Try.func39 rfl rfl rfl rfl (.refl _) (Grow_fn h bb ((x :: l).length - 1 + sumT (x :: l)) (by omega) (by omega)) ?_
        rintro _ _ H1 M1 ⟨v1, hv1, rfl⟩
        simp only [List.cons_append, List.nil_append]
        replace hv := hv.mono M1
        replace hfr := hfr.mono M1
        (repeat (first | refine WL_nil ?_ | refine Then_normal ?_ | refine W_seq ?_))
        skip
        refine W_region rfl ?_
        refine WL_is (X_move rfl rfl) rfl rfl rfl ?_
        (refine WL_index_sl rfl rfl rfl rfl rfl (by assumption) (by omega) (by omega) rfl rfl rfl ?_; intro p_ hp_)
        refine WL_is (X_load1_at rfl rfl (by assumption) rfl rfl) rfl rfl rfl ?_
        refine WL_callR [_, _] _ rfl rfl rfl Try.func28 rfl rfl rfl rfl (.refl _) (ws_fn H1 bb (selfP bb) v1 x [] (.inr rfl) hv1 (by simp; omega)) ?_
        rintro _ _ H2 M2 ⟨r2, v2, rfl, hv2, -, rfl⟩
        simp only [List.cons_append, List.nil_append]
        replace hfr := hfr.mono M2
        (repeat (first | refine WL_nil ?_ | refine Then_normal ?_ | refine W_seq ?_))
        skip
        refine W_region rfl ?_
        refine WL_is (X_move rfl rfl) rfl rfl rfl ?_
        refine WL_is (X_sliceLoG (sz := 1) (j := 1) rfl rfl rfl rfl rfl (by omega)) rfl rfl rfl ?_
        rw [hlc] at hfr ⊢
        generalize (if vc = 1 then va else va.map (·.add (1 * 1))) = ta at *
        refine WL_is (X_len_sl rfl rfl rfl (by assumption)) rfl rfl rfl ?_
        refine WL_is (X_move rfl rfl) rfl rfl rfl ?_
        (repeat (first | refine WL_nil ?_ | refine Then_normal ?_ | refine W_block ?_))
        refine W_loop (X := JX) (L := fun y => ⟨[(65, .int .i64 (y.j : Int)), (64, .int .i64 (l.length : Int)), (63, .slice ta l.length (vc - 1)), (1, .string ⟨#[47]⟩), (8, selfP bb)], [], [blk bb [selfP bb, y.v] 46, rowL encB8 y.v 5 1 (x ++ tailJ (l.take y.j))], y.h⟩) (p := fun y => y.j ≤ l.length ∧ (∃ a m c, y.v = .slice a m c) ∧ le H2 y.h) (μ := fun y => l.length - y.j) ⟨0, v2, H2⟩ ⟨(by repeat (first | exact SubE_nil | refine SubE_cons rfl ?_)), rfl, ?_, rfl⟩ ⟨Nat.zero_le _, hv2, le.refl _⟩ ?_
        · have : x ++ tailJ (l.take 0) = x := by simp [tailJ]
          rw [this]; exact SubR.refl _
        rintro ⟨j2, w, h3⟩ ⟨hj2, hw, hle3⟩
        dsimp only at hj2 hw hle3 ⊢
        replace hfr := hfr.mono hle3
        have htl := tailJ_len (l.take j2)
        have htk : (l.take j2).length = j2 := by rw [List.length_take]; omega
        have hst2 := sumT_take l j2
        by_cases hlt2 : j2 < l.length
        · have hsu2 := sumT_succ hlt2
          have hat2 := sumT_at hlt2
          have htj := tailJ_succ hlt2
          (repeat (first | refine W_seq ?_))
          refine W_region rfl ?_
          refine WL_is (X_lss_t rfl rfl rfl (by omega)) rfl rfl rfl ?_
          (repeat (first | refine WL_nil ?_ | refine Then_normal ?_ | refine W_seq ?_ | refine W_skip ?_ | refine W_block ?_ | refine W_true rfl ?_))
          skip
          refine W_region rfl ?_
          (refine WL_index_slN rfl rfl rfl rfl rfl (by assumption) (by omega) rfl rfl rfl ?_; intro p_ hp_)
          refine WL_is (X_load1_at rfl rfl (by assumption) rfl rfl) rfl rfl rfl ?_
          refine WL_is (X_assign rfl rfl) rfl rfl rfl ?_
          (repeat (first | refine WL_nil ?_ | refine Then_normal ?_ | refine W_seq ?_))
          skip
          refine W_region rfl ?_
          refine WL_is (X_move rfl rfl) rfl rfl rfl ?_
          refine WL_callR [_, _] _ rfl rfl rfl Try.func28 rfl rfl rfl rfl (.refl _) (ws_fn h3 bb (selfP bb) w [47] _ (.inr rfl) hw (by simp only [List.length_append, List.length_singleton]; omega)) ?_
          rintro _ _ H4 M4 ⟨r4, v4, rfl, hv4, -, rfl⟩
          simp only [List.cons_append, List.nil_append]
          (repeat (first | refine WL_nil ?_ | refine Then_normal ?_))
          skip
          refine W_region rfl ?_
          refine WL_is (X_move rfl rfl) rfl rfl rfl ?_
          refine WL_callR [_, _] _ rfl rfl rfl Try.func28 rfl rfl rfl rfl (.refl _) (ws_fn H4 bb (selfP bb) v4 l[j2] _ (.inr rfl) hv4 (by simp only [List.length_append, List.length_singleton]; omega)) ?_
          rintro _ _ H5 M5 ⟨r5, v5, rfl, hv5, -, rfl⟩
          simp only [List.cons_append, List.nil_append]
          (repeat (first | refine WL_nil ?_ | refine Then_normal ?_ | refine inBlk_normal ?_))
          skip
          refine W_region rfl ?_
          refine WL_is (X_addW rfl rfl rfl (by exact wrap_i64_in (by omega) (by omega))) rfl rfl rfl ?_
          refine WL_is (X_move rfl rfl) rfl rfl rfl ?_
          (repeat (first | refine WL_nil ?_ | refine Then_normal ?_))
          refine ⟨⟨j2 + 1, v5, H5⟩, ⟨(by repeat (first | exact SubE_nil | refine SubE_cons rfl ?_)), rfl, ?_, rfl⟩, ⟨by dsimp only; omega, hv5, hle3.trans (M4.trans M5)⟩, by dsimp only; omega⟩
          dsimp only
          rw [htj]
          simp only [List.append_assoc, List.cons_append, List.nil_append]
          exact SubR.refl _
        · rw [List.take_of_length_le (by omega)] at htl htk ⊢
          have hne : x ++ tailJ l = [] → w = .slice none 0 0 := fun e => by
            have he : x.length + (tailJ l).length = 0 := by
              have := congrArg List.length e
              rw [List.length_append] at this
              exact this
            exfalso; omega
          (repeat (first | refine W_seq ?_))
          refine W_region rfl ?_
          refine WL_is (X_lss_f rfl rfl rfl (by omega)) rfl rfl rfl ?_
          (repeat (first | refine WL_nil ?_ | refine Then_normal ?_ | refine W_seq ?_ | refine W_exit ?_ | refine Then_exit ?_ | refine inBlk_here ?_ | refine W_false rfl ?_))
          skip
          refine W_region rfl ?_
          refine WL_callR [_, _] _ rfl rfl rfl Try.func30 rfl rfl rfl rfl (.refl _) (str_fn h3 bb (selfP bb) w _ hne (by rw [List.length_append]; omega)) ?_
          rintro _ R6 H6 M6 rfl
          refine WL_is (X_assign rfl rfl) rfl rfl rfl ?_
          (repeat (first | refine WL_nil ?_ | refine Then_normal ?_ | refine W_ret ?_))
          refine Body_end rfl rfl rfl (SubR.none _) ?_
          rfl
def dirEnd (p : Pth) : Bool := p.dr && decide (0 < p.ps.length) && !dotsB (p.ps.getLastD [])
def joinR (p : Pth) : Bs := (if p.ab = true then [47] else []) ++ joinP p.ps ++ (if dirEnd p = true then [47] else [])
set_option maxHeartbeats 2000000 in
theorem join_fn (h : PH) (p : Pth) (v : Value) (hv : PthV h v p) (hl : p.ps.length ≤ 1000000) (hs : sumT p.ps ≤ 10000000) :
    Does Try.prog 18 [v] [] h (Ret fun r _ _ => r = .string (mkB (joinR p))) := by
  obtain ⟨a, c, rfl, hx⟩ := hv.shape
  have hjl := joinP_len p.ps
  unfold pthV joinR dirEnd
  obtain ⟨ab, dr, ps⟩ := p
  dsimp only at hl hs hx hjl ⊢
  refine Does_of_W Try.func18 rfl (n := 33) rfl rfl (by simp only [argE] <;> rfl) ?_
  (repeat (first | refine W_seq ?_))
  refine W_region rfl ?_
  (refine WL_box rfl rfl rfl rfl rfl rfl ?_; intro b_)
  refine WL_is (X_assign rfl rfl) rfl rfl rfl ?_
  (repeat (first | refine WL_nil ?_ | refine Then_normal ?_ | refine W_seq ?_))
  generalize b_ = pb
  skip
  refine W_region rfl ?_
  (refine WL_alloc rfl rfl rfl rfl rfl rfl ?_; intro b_)
  (repeat (first | refine WL_nil ?_ | refine Then_normal ?_ | refine W_seq ?_))
  generalize b_ = bb
  refine W_upd (Upd.nilrow (e := 5) (sz := 1)) ?_
  skip
  refine W_region rfl ?_
  refine WL_is (X_fieldAddr rfl rfl rfl (by simp only [Nat.zero_add] <;> rfl)) rfl rfl rfl ?_
  refine WL_is (X_load1 rfl rfl (by exact idx2) rfl rfl) rfl rfl rfl ?_
  (repeat (first | refine WL_nil ?_ | refine Then_normal ?_))
  obtain ⟨pre, hpre⟩ : ∃ pre : Bs, pre = if ab = true then [47] else [] := ⟨_, rfl⟩
  have hprl : pre.length ≤ 1 := by rw [hpre]; split <;> simp
  refine W_cutT (X := Value × Value × PH) (L := fun x => ⟨[(1, .pointer (some ⟨pb, 0, none⟩)), (3, selfP bb)], [], [blk bb [x.1, x.2.1] 46, rowL encB8 x.2.1 5 1 pre, blk pb (pthC ⟨ab, dr, ps⟩ (.slice a ps.length c)) 29], x.2.2⟩) (fun x => (x.1 = .pointer none ∨ x.1 = selfP bb) ∧ (∃ y m c, x.2.1 = .slice y m c) ∧ (pre = [] → x.2.1 = .slice none 0 0) ∧ le h x.2.2) ?_ ?_
  · cases ab with
    | true =>
      (repeat (first | refine W_true rfl ?_))
      skip
      refine W_region rfl ?_
      refine WL_callR [_, _] [_] rfl rfl rfl Try.func28 rfl rfl rfl rfl (.swap _ _ _) (ws_fn h bb (.pointer none) (.slice none 0 0) [47] [] (.inl rfl) ⟨_, _, _, rfl⟩ (by simp)) ?_
      rintro _ _ H2 M2 ⟨r2, v2, rfl, hv2, -, rfl⟩
      simp only [List.cons_append, List.nil_append]
      (repeat (first | refine WL_nil ?_ | refine Then_normal ?_))
      subst hpre
      exact ⟨(selfP bb, v2, H2), ⟨(by repeat (first | exact SubE_nil | refine SubE_cons rfl ?_)), rfl, SubR.refl _, rfl⟩, .inr rfl, hv2, (fun e => by simp at e), M2⟩
    | false =>
      (repeat (first | refine Then_normal ?_ | refine W_skip ?_ | refine W_false rfl ?_))
      subst hpre
      exact ⟨(.pointer none, .slice none 0 0, h), ⟨(by repeat (first | exact SubE_nil | refine SubE_cons rfl ?_)), rfl, SubR.of_perm (.swap _ _ _), rfl⟩, .inl rfl, ⟨_, _, _, rfl⟩, (fun _ => rfl), le.refl _⟩
  rintro ⟨av, v1, H2⟩ ⟨hav, hv1, hn1, M1⟩
  dsimp only at hav hv1 hn1 M1 ⊢
  rw [← hpre]
  clear hpre
  replace hx := hx.mono M1
  have hj := sjoin_fn H2 ps _ hx hl hs
  have hjz := mkB_size (joinP ps)
  (repeat (first | refine W_seq ?_))
  refine W_region rfl ?_
  refine WL_is (X_fieldAddr rfl rfl rfl (by simp only [Nat.zero_add] <;> rfl)) rfl rfl rfl ?_
  refine WL_is (X_load1 rfl rfl (by exact idx2) rfl rfl) rfl rfl rfl ?_
  refine WL_is (X_callv rfl rfl rfl Try.func29 rfl (by assumption)) rfl rfl rfl ?_
  refine WL_callR [_, _] [_] rfl rfl rfl Try.func28 rfl rfl rfl rfl (.refl _) (ws_fn H2 bb av v1 (joinP ps) pre hav hv1 (by omega)) ?_
  rintro _ _ H4 M4 ⟨r4, v4, rfl, hv4, he4, rfl⟩
  simp only [List.cons_append, List.nil_append]
  replace hx := hx.mono M4
  have hn4 : pre ++ joinP ps = [] → v4 = .slice none 0 0 := fun e => by
    rw [List.append_eq_nil_iff] at e
    rw [he4 e.2, hn1 e.1]
  (repeat (first | refine WL_nil ?_ | refine Then_normal ?_ | refine W_seq ?_))
  cases dr with
  | false =>
    skip
    refine W_region rfl ?_
    refine WL_is (X_fieldAddr rfl rfl rfl (by simp only [Nat.zero_add] <;> rfl)) rfl rfl rfl ?_
    refine WL_is (X_load1 rfl rfl (by exact idx2) rfl rfl) rfl rfl rfl ?_
    refine WL_is (X_len_sl rfl rfl rfl (by assumption)) rfl rfl rfl ?_
    refine WL_is (X_assign rfl rfl) rfl rfl rfl ?_
    (repeat (first | refine WL_nil ?_ | refine Then_normal ?_ | refine W_seq ?_))
    skip
    refine W_region rfl ?_
    refine WL_is (X_fieldAddr rfl rfl rfl (by simp only [Nat.zero_add] <;> rfl)) rfl rfl rfl ?_
    refine WL_is (X_load1 rfl rfl (by exact idx2) rfl rfl) rfl rfl rfl ?_
    refine WL_is (X_move rfl rfl) rfl rfl rfl ?_
    refine WL_off rfl rfl rfl ?_
    refine WL_off rfl rfl rfl ?_
    refine WL_is (X_pick_f rfl rfl rfl) rfl rfl rfl ?_
    refine WL_is (X_move rfl rfl) rfl rfl rfl ?_
    refine WL_off rfl rfl rfl ?_
    refine WL_off rfl rfl rfl ?_
    refine WL_off rfl rfl rfl ?_
    refine WL_off rfl rfl rfl ?_
    refine WL_off rfl rfl rfl ?_
    refine WL_off rfl rfl rfl ?_
    refine WL_off rfl rfl rfl ?_
    refine WL_off rfl rfl rfl ?_
    refine WL_is (X_pick_f rfl rfl rfl) rfl rfl rfl ?_
    (repeat (first | refine WL_nil ?_ | refine Then_normal ?_ | refine W_seq ?_ | refine W_skip ?_ | refine W_false rfl ?_))
    skip
    refine W_region rfl ?_
    refine WL_callR [_, _] _ rfl rfl rfl Try.func30 rfl rfl rfl rfl (.refl _) (str_fn H4 bb (selfP bb) v4 _ hn4 (by simp only [List.length_append]; omega)) ?_
    rintro _ R6 H6 M6 rfl
    refine WL_is (X_assign rfl rfl) rfl rfl rfl ?_
    (repeat (first | refine WL_nil ?_ | refine Then_normal ?_ | refine W_ret ?_))
    refine Body_end rfl rfl rfl (SubR.none _) ?_
    simp
  | true =>
    by_cases h0 : ps.length = 0
    · have h0i : ¬ (ps.length : Int) > 0 := by omega
      skip
      refine W_region rfl ?_
      refine WL_is (X_fieldAddr rfl rfl rfl (by simp only [Nat.zero_add] <;> rfl)) rfl rfl rfl ?_
      refine WL_is (X_load1 rfl rfl (by exact idx2) rfl rfl) rfl rfl rfl ?_
      refine WL_is (X_len_sl rfl rfl rfl (by assumption)) rfl rfl rfl ?_
      refine WL_is (X_assign rfl rfl) rfl rfl rfl ?_
      (repeat (first | refine WL_nil ?_ | refine Then_normal ?_ | refine W_seq ?_))
      skip
      refine W_region rfl ?_
      refine WL_is (X_fieldAddr rfl rfl rfl (by simp only [Nat.zero_add] <;> rfl)) rfl rfl rfl ?_
      refine WL_is (X_load1 rfl rfl (by exact idx2) rfl rfl) rfl rfl rfl ?_
      refine WL_is (X_move rfl rfl) rfl rfl rfl ?_
      refine WL_is (X_move rfl rfl) rfl rfl rfl ?_
      refine WL_is (X_gtr_f rfl rfl rfl (by omega)) rfl rfl rfl ?_
      refine WL_is (X_pick_t rfl rfl rfl) rfl rfl rfl ?_
      refine WL_is (X_move rfl rfl) rfl rfl rfl ?_
      refine WL_off rfl rfl rfl ?_
      refine WL_off rfl rfl rfl ?_
      refine WL_off rfl rfl rfl ?_
      refine WL_off rfl rfl rfl ?_
      refine WL_off rfl rfl rfl ?_
      refine WL_off rfl rfl rfl ?_
      refine WL_off rfl rfl rfl ?_
      refine WL_off rfl rfl rfl ?_
      refine WL_is (X_pick_f rfl rfl rfl) rfl rfl rfl ?_
      (repeat (first | refine WL_nil ?_ | refine Then_normal ?_ | refine W_seq ?_ | refine W_skip ?_ | refine W_false rfl ?_))
      skip
      refine W_region rfl ?_
      refine WL_callR [_, _] _ rfl rfl rfl Try.func30 rfl rfl rfl rfl (.refl _) (str_fn H4 bb (selfP bb) v4 _ hn4 (by simp only [List.length_append]; omega)) ?_
      rintro _ R6 H6 M6 rfl
      refine WL_is (X_assign rfl rfl) rfl rfl rfl ?_
      (repeat (first | refine WL_nil ?_ | refine Then_normal ?_ | refine W_ret ?_))
      refine Body_end rfl rfl rfl (SubR.none _) ?_
      simp [h0]
    · have h0i : (ps.length : Int) > 0 := by omega
      have hd := dots_fn H4 (ps[((ps.length : Int) - 1).toNat]'(by omega))
      have hla := last_at (ps := ps) (by omega)
      have h0p : 0 < ps.length := by omega
      rw [hla]
      cases hdd : dotsB (ps[((ps.length : Int) - 1).toNat]'(by omega)) with
      | true =>
        rw [hdd] at hd
        skip
        refine W_region rfl ?_
        refine WL_is (X_fieldAddr rfl rfl rfl (by simp only [Nat.zero_add] <;> rfl)) rfl rfl rfl ?_
        refine WL_is (X_load1 rfl rfl (by exact idx2) rfl rfl) rfl rfl rfl ?_
        refine WL_is (X_len_sl rfl rfl rfl (by assumption)) rfl rfl rfl ?_
        refine WL_is (X_assign rfl rfl) rfl rfl rfl ?_
        (repeat (first | refine WL_nil ?_ | refine Then_normal ?_ | refine W_seq ?_))
        skip
        refine W_region rfl ?_
        refine WL_is (X_fieldAddr rfl rfl rfl (by simp only [Nat.zero_add] <;> rfl)) rfl rfl rfl ?_
        refine WL_is (X_load1 rfl rfl (by exact idx2) rfl rfl) rfl rfl rfl ?_
        refine WL_is (X_move rfl rfl) rfl rfl rfl ?_
        refine WL_is (X_move rfl rfl) rfl rfl rfl ?_
        refine WL_is (X_gtr_t rfl rfl rfl (by omega)) rfl rfl rfl ?_
        refine WL_is (X_pick_t rfl rfl rfl) rfl rfl rfl ?_
        refine WL_is (X_move rfl rfl) rfl rfl rfl ?_
        refine WL_is (X_fieldAddr rfl rfl rfl (by simp only [Nat.zero_add] <;> rfl)) rfl rfl rfl ?_
        refine WL_is (X_load1 rfl rfl (by exact idx2) rfl rfl) rfl rfl rfl ?_
        refine WL_is (X_move rfl rfl) rfl rfl rfl ?_
        refine WL_is (X_subW rfl rfl rfl (by exact wrap_i64_in (by omega) (by omega))) rfl rfl rfl ?_
        (refine WL_index_sl rfl rfl rfl rfl rfl (by assumption) (by omega) (by omega) rfl rfl rfl ?_; intro p_ hp_)
        refine WL_is (X_load1_at rfl rfl (by assumption) rfl rfl) rfl rfl rfl ?_
        refine WL_is (X_callv rfl rfl rfl Try.func11 rfl (by assumption)) rfl rfl rfl ?_
        refine WL_is (X_not rfl rfl) rfl rfl rfl ?_
        refine WL_is (X_pick_t rfl rfl rfl) rfl rfl rfl ?_
        (repeat (first | refine WL_nil ?_ | refine Then_normal ?_ | refine W_seq ?_ | refine W_skip ?_ | refine W_false rfl ?_))
        skip
        refine W_region rfl ?_
        refine WL_callR [_, _] _ rfl rfl rfl Try.func30 rfl rfl rfl rfl (.refl _) (str_fn H4 bb (selfP bb) v4 _ hn4 (by simp only [List.length_append]; omega)) ?_
        rintro _ R6 H6 M6 rfl
        refine WL_is (X_assign rfl rfl) rfl rfl rfl ?_
        (repeat (first | refine WL_nil ?_ | refine Then_normal ?_ | refine W_ret ?_))
        refine Body_end rfl rfl rfl (SubR.none _) ?_
        simp
      | false =>
        rw [hdd] at hd
        skip
        refine W_region rfl ?_
        refine WL_is (X_fieldAddr rfl rfl rfl (by simp only [Nat.zero_add] <;> rfl)) rfl rfl rfl ?_
        refine WL_is (X_load1 rfl rfl (by exact idx2) rfl rfl) rfl rfl rfl ?_
        refine WL_is (X_len_sl rfl rfl rfl (by assumption)) rfl rfl rfl ?_
        refine WL_is (X_assign rfl rfl) rfl rfl rfl ?_
        (repeat (first | refine WL_nil ?_ | refine Then_normal ?_ | refine W_seq ?_))
        skip
        refine W_region rfl ?_
        refine WL_is (X_fieldAddr rfl rfl rfl (by simp only [Nat.zero_add] <;> rfl)) rfl rfl rfl ?_
        refine WL_is (X_load1 rfl rfl (by exact idx2) rfl rfl) rfl rfl rfl ?_
        refine WL_is (X_move rfl rfl) rfl rfl rfl ?_
        refine WL_is (X_move rfl rfl) rfl rfl rfl ?_
        refine WL_is (X_gtr_t rfl rfl rfl (by omega)) rfl rfl rfl ?_
        refine WL_is (X_pick_t rfl rfl rfl) rfl rfl rfl ?_
        refine WL_is (X_move rfl rfl) rfl rfl rfl ?_
        refine WL_is (X_fieldAddr rfl rfl rfl (by simp only [Nat.zero_add] <;> rfl)) rfl rfl rfl ?_
        refine WL_is (X_load1 rfl rfl (by exact idx2) rfl rfl) rfl rfl rfl ?_
        refine WL_is (X_move rfl rfl) rfl rfl rfl ?_
        refine WL_is (X_subW rfl rfl rfl (by exact wrap_i64_in (by omega) (by omega))) rfl rfl rfl ?_
        (refine WL_index_sl rfl rfl rfl rfl rfl (by assumption) (by omega) (by omega) rfl rfl rfl ?_; intro p_ hp_)
        refine WL_is (X_load1_at rfl rfl (by assumption) rfl rfl) rfl rfl rfl ?_
        refine WL_is (X_callv rfl rfl rfl Try.func11 rfl (by assumption)) rfl rfl rfl ?_
        refine WL_is (X_not rfl rfl) rfl rfl rfl ?_
        refine WL_is (X_pick_t rfl rfl rfl) rfl rfl rfl ?_
        (repeat (first | refine WL_nil ?_ | refine Then_normal ?_ | refine W_true rfl ?_))
        skip
        refine W_region rfl ?_
        refine WL_callR [_, _] _ rfl rfl rfl Try.func28 rfl rfl rfl rfl (.refl _) (ws_fn H4 bb (selfP bb) v4 [47] _ (.inr rfl) hv4 (by simp only [List.length_append, List.length_singleton]; omega)) ?_
        rintro _ _ H5 M5 ⟨r5, v5, rfl, hv5, -, rfl⟩
        simp only [List.cons_append, List.nil_append]
        (repeat (first | refine WL_nil ?_ | refine Then_normal ?_ | refine W_seq ?_))
        skip
        refine W_region rfl ?_
        refine WL_callR [_, _] _ rfl rfl rfl Try.func30 rfl rfl rfl rfl (.refl _) (str_fn H5 bb (selfP bb) v5 _ (fun e => by have := congrArg List.length e; simp at this) (by simp only [List.length_append, List.length_singleton]; omega)) ?_
        rintro _ R6 H6 M6 rfl
        refine WL_is (X_assign rfl rfl) rfl rfl rfl ?_
        (repeat (first | refine WL_nil ?_ | refine Then_normal ?_ | refine W_ret ?_))
        refine Body_end rfl rfl rfl (SubR.none _) ?_
        simp [h0p]
end Go.Proofs.Ythcolbdlalpcjaa
