/- Directories: what is more than a statement looks at. -/
import Derived.Test.YtgpanbmjmpondaaDirU
namespace Go.Proofs.Ytgpanbmjmpondaa
set_option maxRecDepth 4000
open Go Go.Par PH
def nmR (r : List Chu) : Prop := ∀ x ∈ r, ∀ y ∈ x.sl, y.nm.length ≤ 100
def smallD (d : Dr) : Prop := maxR d ≤ 40 ∧ ∀ e ∈ slotsL d, e.2.nm.length ≤ 100
theorem small_of {d : Dr} (h : ∀ k, k < 4 → (d.row k).length ≤ 40 ∧ nmR (d.row k)) : smallD d := by
  refine ⟨?_, fun e he => ?_⟩
  · have a := (h 0 (by omega)).1; have b := (h 1 (by omega)).1; have c := (h 2 (by omega)).1; have e := (h 3 (by omega)).1
    unfold maxR
    simp only [Dr.row] at a b c e
    omega
  · obtain ⟨k, c, s, hk, hs, hc, _, h2⟩ := slots_ok he
    rw [h2]
    cases hg : (d.row k)[c].sl[s]? with
    | none => exact Nat.zero_le _
    | some y => exact (h k hk).2 _ (List.getElem_mem hc) y (List.mem_of_getElem? hg)
theorem mem_snoc {α : Type} {l : List α} {i : Nat} (hi : i < l.length) {x : α} (h : x ∈ l.take (i + 1)) : x ∈ l.take i ∨ x = l[i] := by
  rw [take_snoc hi] at h
  exact orwk (List.mem_append.1 h) fun h => List.mem_singleton.1 h
structure LgX where
  n : Nat
  i : Nat
attribute [local irreducible] W WL Does Exec Body Then inBlk RG WR row obj pblk
set_option maxHeartbeats 4000000 in
theorem large_fn (h : PH) (v : Value) (d : Dr) (hv : DrV h v d) : Does Try.prog 7 [v] [] h (Ret fun r R' _ => (∃ b, r = .bool b ∧ (b = false → smallD d)) ∧ R' = []) := by
  have hte := hv.ten
  obtain ⟨x0, x1, x2, x3, rfl, h0, h1, h2, h3⟩ := hv
  have hrow : ∀ k, k < 4 → ∃ xk, [x0, x1, x2, x3][k]? = some xk ∧ Sl encChu 31 h xk (d.row k) := fun k hk => by
    match k, hk with
    | 0, _ => exact ⟨x0, rfl, h0⟩
    | 1, _ => exact ⟨x1, rfl, h1⟩
    | 2, _ => exact ⟨x2, rfl, h2⟩
    | 3, _ => exact ⟨x3, rfl, h3⟩
  have hvc : vcO (drV x0 x1 x2 x3) = some [x0, x1, x2, x3] := forceL_all _
  unfold drV at hvc ⊢
  refine Does_of_W Try.func7 rfl (n := 47) rfl rfl (by simp only [argE] <;> rfl) ?_
  (repeat (first | refine W_seq ?_))
  refine W_region rfl ?_
  refine WL_box rfl rfl hvc rfl rfl rfl ?_
  intro b1
  refine WL_is (X_assign rfl rfl) rfl rfl rfl ?_
  (repeat (first | refine WL_nil ?_ | refine Then_normal ?_ | refine W_seq ?_))
  skip
  refine W_region rfl ?_
  refine WL_is (X_assign rfl rfl) rfl rfl rfl ?_
  (repeat (first | refine WL_nil ?_ | refine Then_normal ?_ | refine W_seq ?_))
  skip
  refine W_region rfl ?_
  refine WL_is (X_assign rfl rfl) rfl rfl rfl ?_
  (repeat (first | refine WL_nil ?_ | refine Then_normal ?_ | refine W_block ?_))
  refine W_loop (X := LgX) (L := fun x => ⟨[(4, .int .i64 (x.i : Int)), (3, .int .i64 (x.n : Int)), (1, .pointer (some ⟨b1, 0, none⟩))], [], [blk b1 [x0, x1, x2, x3] 25], h⟩) (p := fun x => x.i ≤ 4 ∧ x.n ≤ 40 * x.i ∧ ∀ q, q < x.i → (d.row q).length ≤ 40 ∧ nmR (d.row q)) (μ := fun x => 4 - x.i) ⟨0, 0⟩ ⟨(by repeat (first | exact SubE_nil | refine SubE_cons rfl ?_)), rfl, SubR.refl _, rfl⟩ ⟨Nat.zero_le _, Nat.zero_le _, fun q hq => by dsimp only at hq; omega⟩ ?_
  rintro ⟨n, k⟩ ⟨hk, hn, hall⟩
  dsimp only at hk hn hall ⊢
  by_cases hk4 : k < 4
  · obtain ⟨xk, hxk, hsk⟩ := hrow k hk4
    obtain ⟨xa, xc, rfl⟩ := hsk.shape
    have htk := hte k hk4
    by_cases hbig : ((d.row k).length : Int) > 40
    · (repeat (first | refine W_seq ?_))
      refine W_region rfl ?_
      refine WL_is (X_move rfl rfl) rfl rfl rfl ?_
      refine WL_is (X_lss_t rfl rfl rfl (by omega)) rfl rfl rfl ?_
      (repeat (first | refine WL_nil ?_ | refine Then_normal ?_ | refine W_seq ?_ | refine W_skip ?_ | refine W_block ?_ | refine W_true rfl ?_))
      skip
      refine W_region rfl ?_
      refine WL_is (X_move rfl rfl) rfl rfl rfl ?_
      refine WL_is (X_fieldAddr rfl rfl rfl (by simp only [Nat.zero_add] <;> rfl)) rfl rfl rfl ?_
      refine WL_is (X_index_arr (sz := 1) rfl rfl rfl rfl rfl (by omega) (by omega) (by simp only [Nat.zero_add, Int.toNat_natCast, Nat.mul_one] <;> rfl)) rfl rfl rfl ?_
      refine WL_is (X_load1 rfl rfl (by exact idx0) rfl (by assumption)) rfl rfl rfl ?_
      refine WL_is (X_len_sl rfl rfl rfl (by assumption)) rfl rfl rfl ?_
      refine WL_is (X_gtr_t rfl rfl rfl (by omega)) rfl rfl rfl ?_
      (repeat (first | refine WL_nil ?_ | refine Then_normal ?_ | refine W_seq ?_ | refine W_true rfl ?_))
      skip
      refine W_region rfl ?_
      refine WL_is (X_assign rfl rfl) rfl rfl rfl ?_
      (repeat (first | refine WL_nil ?_ | refine Then_normal ?_ | refine W_ret ?_ | refine Then_ret ?_ | refine inBlk_ret ?_))
      refine Body_end rfl rfl rfl (SubR.none _) ?_
      exact ⟨⟨true, rfl, fun h => by cases h⟩, rfl⟩
    · (repeat (first | refine W_seq ?_))
      refine W_region rfl ?_
      refine WL_is (X_move rfl rfl) rfl rfl rfl ?_
      refine WL_is (X_lss_t rfl rfl rfl (by omega)) rfl rfl rfl ?_
      (repeat (first | refine WL_nil ?_ | refine Then_normal ?_ | refine W_seq ?_ | refine W_skip ?_ | refine W_block ?_ | refine W_true rfl ?_))
      skip
      refine W_region rfl ?_
      refine WL_is (X_move rfl rfl) rfl rfl rfl ?_
      refine WL_is (X_fieldAddr rfl rfl rfl (by simp only [Nat.zero_add] <;> rfl)) rfl rfl rfl ?_
      refine WL_is (X_index_arr (sz := 1) rfl rfl rfl rfl rfl (by omega) (by omega) (by simp only [Nat.zero_add, Int.toNat_natCast, Nat.mul_one] <;> rfl)) rfl rfl rfl ?_
      refine WL_is (X_load1 rfl rfl (by exact idx0) rfl (by assumption)) rfl rfl rfl ?_
      refine WL_is (X_len_sl rfl rfl rfl (by assumption)) rfl rfl rfl ?_
      refine WL_is (X_gtr_f rfl rfl rfl (by omega)) rfl rfl rfl ?_
      (repeat (first | refine WL_nil ?_ | refine Then_normal ?_ | refine W_seq ?_ | refine W_skip ?_ | refine W_false rfl ?_))
      skip
      refine W_region rfl ?_
      refine WL_is (X_assign rfl rfl) rfl rfl rfl ?_
      (repeat (first | refine WL_nil ?_ | refine Then_normal ?_ | refine W_block ?_))
      refine W_loop (X := LgX) (L := fun x => ⟨[(5, .int .i64 (x.i : Int)), (3, .int .i64 (x.n : Int)), (4, .int .i64 (k : Int)), (1, .pointer (some ⟨b1, 0, none⟩))], [], [blk b1 [x0, x1, x2, x3] 25], h⟩) (p := fun x => x.i ≤ (d.row k).length ∧ x.n ≤ 40 * k + x.i ∧ nmR ((d.row k).take x.i)) (μ := fun x => (d.row k).length - x.i) ⟨n, 0⟩ ⟨(by repeat (first | exact SubE_nil | refine SubE_cons rfl ?_)), rfl, SubR.refl _, rfl⟩ ⟨Nat.zero_le _, hn, fun x hx => by simp at hx⟩ ?_
      rintro ⟨n2, c⟩ ⟨hc, hn2, hnr⟩
      dsimp only at hc hn2 hnr ⊢
      by_cases hcl : c < (d.row k).length
      · have h10 : (d.row k)[c].sl.length = 10 := htk _ (List.getElem_mem hcl)
        (repeat (first | refine W_seq ?_))
        refine W_region rfl ?_
        refine WL_is (X_move rfl rfl) rfl rfl rfl ?_
        refine WL_is (X_move rfl rfl) rfl rfl rfl ?_
        refine WL_is (X_fieldAddr rfl rfl rfl (by simp only [Nat.zero_add] <;> rfl)) rfl rfl rfl ?_
        refine WL_is (X_index_arr (sz := 1) rfl rfl rfl rfl rfl (by omega) (by omega) (by simp only [Nat.zero_add, Int.toNat_natCast, Nat.mul_one] <;> rfl)) rfl rfl rfl ?_
        refine WL_is (X_load1 rfl rfl (by exact idx0) rfl (by assumption)) rfl rfl rfl ?_
        refine WL_is (X_len_sl rfl rfl rfl (by assumption)) rfl rfl rfl ?_
        refine WL_is (X_lss_t rfl rfl rfl (by omega)) rfl rfl rfl ?_
        (repeat (first | refine WL_nil ?_ | refine Then_normal ?_ | refine W_seq ?_ | refine W_skip ?_ | refine W_block ?_ | refine W_true rfl ?_))
        skip
        refine W_region rfl ?_
        refine WL_is (X_assign rfl rfl) rfl rfl rfl ?_
        (repeat (first | refine WL_nil ?_ | refine Then_normal ?_ | refine W_block ?_))
        refine W_loop (X := Nat) (L := fun i => ⟨[(6, .int .i64 (i : Int)), (5, .int .i64 (c : Int)), (3, .int .i64 (n2 : Int)), (4, .int .i64 (k : Int)), (1, .pointer (some ⟨b1, 0, none⟩))], [], [blk b1 [x0, x1, x2, x3] 25], h⟩) (p := fun i => i ≤ 10 ∧ ∀ y ∈ (d.row k)[c].sl.take i, y.nm.length ≤ 100) (μ := fun i => 10 - i) 0 ⟨(by repeat (first | exact SubE_nil | refine SubE_cons rfl ?_)), rfl, SubR.refl _, rfl⟩ ⟨Nat.zero_le _, fun y hy => by simp at hy⟩ ?_
        rintro i ⟨hi, hny⟩
        by_cases hi10 : i < 10
        · have hil : i < (d.row k)[c].sl.length := by omega
          have ht3 := take3 (d.row k)[c].sl i hil
          have hms := fun y => mem_snoc (x := y) hil
          (repeat (first | refine W_seq ?_))
          refine W_region rfl ?_
          refine WL_is (X_move rfl rfl) rfl rfl rfl ?_
          refine WL_is (X_lss_t rfl rfl rfl (by omega)) rfl rfl rfl ?_
          (repeat (first | refine WL_nil ?_ | refine Then_normal ?_ | refine W_seq ?_ | refine W_skip ?_ | refine W_block ?_ | refine W_true rfl ?_))
          skip
          refine W_region rfl ?_
          refine WL_is (X_move rfl rfl) rfl rfl rfl ?_
          refine WL_is (X_fieldAddr rfl rfl rfl (by simp only [Nat.zero_add] <;> rfl)) rfl rfl rfl ?_
          refine WL_is (X_index_arr (sz := 1) rfl rfl rfl rfl rfl (by omega) (by omega) (by simp only [Nat.zero_add, Int.toNat_natCast, Nat.mul_one] <;> rfl)) rfl rfl rfl ?_
          refine WL_is (X_load1 rfl rfl (by exact idx0) rfl (by assumption)) rfl rfl rfl ?_
          refine WL_is (X_move rfl rfl) rfl rfl rfl ?_
          refine WL_is (X_move rfl rfl) rfl rfl rfl ?_
          (refine WL_index_slN rfl rfl rfl rfl rfl (by assumption) (by omega) rfl rfl rfl ?_; intro p_ hp_)
          (refine WL_fieldAddr_at rfl rfl (by assumption) rfl rfl rfl rfl ?_; intro p_ hp_)
          refine WL_index_arr_at (sz := 3) (o' := i * 3) rfl rfl hp_ rfl rfl rfl (by omega) (by omega) (by simp only [Int.toNat_natCast]) rfl rfl rfl ?_
          intro p9 hp9
          replace hp9 : At h p9 (((d.row k)[c].sl.flatMap encSlo).drop (i * 3) |>.take 3) := hp9.front 3
          rw [ht3] at hp9
          generalize (d.row k)[c].sl[i]'(by omega) = x at hp9 hms
          have hsz := mkB_size x.nm
          unfold encSlo at hp9
          by_cases hb : ((mkB x.nm).size : Int) > 100
          · (refine WL_fieldAddr_at rfl rfl (by assumption) rfl rfl rfl rfl ?_; intro p_ hp_)
            refine WL_is (X_load1_at rfl rfl (by assumption) rfl rfl) rfl rfl rfl ?_
            refine WL_is (X_len_str rfl rfl rfl) rfl rfl rfl ?_
            refine WL_is (X_gtr_t rfl rfl rfl (by omega)) rfl rfl rfl ?_
            (repeat (first | refine WL_nil ?_ | refine Then_normal ?_ | refine W_seq ?_ | refine W_true rfl ?_))
            skip
            refine W_region rfl ?_
            refine WL_is (X_assign rfl rfl) rfl rfl rfl ?_
            (repeat (first | refine WL_nil ?_ | refine Then_normal ?_ | refine W_ret ?_ | refine Then_ret ?_ | refine inBlk_ret ?_))
            refine Body_end rfl rfl rfl (SubR.none _) ?_
            exact ⟨⟨true, rfl, fun h => by cases h⟩, rfl⟩
          · (refine WL_fieldAddr_at rfl rfl (by assumption) rfl rfl rfl rfl ?_; intro p_ hp_)
            refine WL_is (X_load1_at rfl rfl (by assumption) rfl rfl) rfl rfl rfl ?_
            refine WL_is (X_len_str rfl rfl rfl) rfl rfl rfl ?_
            refine WL_is (X_gtr_f rfl rfl rfl (by omega)) rfl rfl rfl ?_
            (repeat (first | refine WL_nil ?_ | refine Then_normal ?_ | refine W_skip ?_ | refine inBlk_normal ?_ | refine W_false rfl ?_))
            skip
            refine W_region rfl ?_
            refine WL_is (X_move rfl rfl) rfl rfl rfl ?_
            refine WL_is (X_addW rfl rfl rfl (by exact wrap_i64_in (by omega) (by omega))) rfl rfl rfl ?_
            refine WL_is (X_assign rfl rfl) rfl rfl rfl ?_
            (repeat (first | refine WL_nil ?_ | refine Then_normal ?_))
            refine ⟨i + 1, ⟨(by repeat (first | exact SubE_nil | refine SubE_cons rfl ?_)), rfl, SubR.refl _, rfl⟩, ⟨hi10, fun y hy => ?_⟩, by omega⟩
            rcases hms y hy with h' | rfl
            · exact hny y h'
            · omega
        · have hie : i = 10 := by omega
          subst hie
          rw [List.take_of_length_le (by omega)] at hny
          (repeat (first | refine W_seq ?_))
          refine W_region rfl ?_
          refine WL_is (X_move rfl rfl) rfl rfl rfl ?_
          refine WL_is (X_lss_f rfl rfl rfl (by omega)) rfl rfl rfl ?_
          (repeat (first | refine WL_nil ?_ | refine Then_normal ?_ | refine W_exit ?_ | refine Then_exit ?_ | refine inBlk_here ?_ | refine W_false rfl ?_))
          skip
          refine W_region rfl ?_
          refine WL_is (X_move rfl rfl) rfl rfl rfl ?_
          refine WL_is (X_addW rfl rfl rfl (by exact wrap_i64_in (by omega) (by omega))) rfl rfl rfl ?_
          refine WL_is (X_assign rfl rfl) rfl rfl rfl ?_
          (repeat (first | refine WL_nil ?_ | refine Then_normal ?_ | refine inBlk_normal ?_))
          skip
          refine W_region rfl ?_
          refine WL_is (X_move rfl rfl) rfl rfl rfl ?_
          refine WL_is (X_addW rfl rfl rfl (by exact wrap_i64_in (by omega) (by omega))) rfl rfl rfl ?_
          refine WL_is (X_assign rfl rfl) rfl rfl rfl ?_
          (repeat (first | refine WL_nil ?_ | refine Then_normal ?_))
          refine ⟨⟨n2 + 1, c + 1⟩, ⟨(by repeat (first | exact SubE_nil | refine SubE_cons rfl ?_)), rfl, SubR.refl _, rfl⟩, ⟨hcl, by dsimp only; omega, fun x hx => ?_⟩, by dsimp only; omega⟩
          rcases mem_snoc hcl hx with h' | rfl
          · exact hnr x h'
          · exact hny
      · rw [List.take_of_length_le (by omega)] at hnr
        (repeat (first | refine W_seq ?_))
        refine W_region rfl ?_
        refine WL_is (X_move rfl rfl) rfl rfl rfl ?_
        refine WL_is (X_move rfl rfl) rfl rfl rfl ?_
        refine WL_is (X_fieldAddr rfl rfl rfl (by simp only [Nat.zero_add] <;> rfl)) rfl rfl rfl ?_
        refine WL_is (X_index_arr (sz := 1) rfl rfl rfl rfl rfl (by omega) (by omega) (by simp only [Nat.zero_add, Int.toNat_natCast, Nat.mul_one] <;> rfl)) rfl rfl rfl ?_
        refine WL_is (X_load1 rfl rfl (by exact idx0) rfl (by assumption)) rfl rfl rfl ?_
        refine WL_is (X_len_sl rfl rfl rfl (by assumption)) rfl rfl rfl ?_
        refine WL_is (X_lss_f rfl rfl rfl (by omega)) rfl rfl rfl ?_
        (repeat (first | refine WL_nil ?_ | refine Then_normal ?_ | refine W_exit ?_ | refine Then_exit ?_ | refine inBlk_normal ?_ | refine inBlk_here ?_ | refine W_false rfl ?_))
        skip
        refine W_region rfl ?_
        refine WL_is (X_move rfl rfl) rfl rfl rfl ?_
        refine WL_is (X_addW rfl rfl rfl (by exact wrap_i64_in (by omega) (by omega))) rfl rfl rfl ?_
        refine WL_is (X_assign rfl rfl) rfl rfl rfl ?_
        (repeat (first | refine WL_nil ?_ | refine Then_normal ?_))
        exact ⟨⟨n2, k + 1⟩, ⟨(by repeat (first | exact SubE_nil | refine SubE_cons rfl ?_)), rfl, SubR.refl _, rfl⟩, ⟨hk4, by dsimp only; omega, fun q hq => by
          dsimp only at hq
          rcases Nat.lt_or_ge q k with h' | h'
          · exact hall q h'
          · have : q = k := by omega
            subst this; exact ⟨by omega, hnr⟩⟩, by dsimp only; omega⟩
  · have hk5 : k = 4 := by omega
    subst hk5
    have hsm := small_of hall
    by_cases hb : (n : Int) > 40
    · (repeat (first | refine W_seq ?_))
      refine W_region rfl ?_
      refine WL_is (X_move rfl rfl) rfl rfl rfl ?_
      refine WL_is (X_lss_f rfl rfl rfl (by omega)) rfl rfl rfl ?_
      (repeat (first | refine WL_nil ?_ | refine Then_normal ?_ | refine W_seq ?_ | refine W_exit ?_ | refine Then_exit ?_ | refine inBlk_here ?_ | refine W_false rfl ?_))
      skip
      refine W_region rfl ?_
      refine WL_is (X_move rfl rfl) rfl rfl rfl ?_
      refine WL_is (X_gtr_t rfl rfl rfl (by omega)) rfl rfl rfl ?_
      refine WL_is (X_assign rfl rfl) rfl rfl rfl ?_
      (repeat (first | refine WL_nil ?_ | refine Then_normal ?_ | refine W_ret ?_))
      refine Body_end rfl rfl rfl (SubR.none _) ?_
      exact ⟨⟨true, rfl, fun h => by cases h⟩, rfl⟩
    · (repeat (first | refine W_seq ?_))
      refine W_region rfl ?_
      refine WL_is (X_move rfl rfl) rfl rfl rfl ?_
      refine WL_is (X_lss_f rfl rfl rfl (by omega)) rfl rfl rfl ?_
      (repeat (first | refine WL_nil ?_ | refine Then_normal ?_ | refine W_seq ?_ | refine W_exit ?_ | refine Then_exit ?_ | refine inBlk_here ?_ | refine W_false rfl ?_))
      skip
      refine W_region rfl ?_
      refine WL_is (X_move rfl rfl) rfl rfl rfl ?_
      refine WL_is (X_gtr_f rfl rfl rfl (by omega)) rfl rfl rfl ?_
      refine WL_is (X_assign rfl rfl) rfl rfl rfl ?_
      (repeat (first | refine WL_nil ?_ | refine Then_normal ?_ | refine W_ret ?_))
      refine Body_end rfl rfl rfl (SubR.none _) ?_
      exact ⟨⟨false, rfl, fun _ => hsm⟩, rfl⟩
end Go.Proofs.Ytgpanbmjmpondaa
