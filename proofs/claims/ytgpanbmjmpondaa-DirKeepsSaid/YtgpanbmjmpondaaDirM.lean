/- Directories: all that is there, as the document has it. -/
import Derived.Test.YtgpanbmjmpondaaDirL
import Derived.Test.YtgpanbmjmpondaaEngZ
namespace Go.Proofs.Ytgpanbmjmpondaa
set_option maxRecDepth 4000
open Go Go.Par PH
def mxTo (d : Dr) (k : Nat) : Nat := ((List.range k).map fun q => (d.row q).length).foldl max 0
theorem mxTo_succ (d : Dr) (k : Nat) : mxTo d (k + 1) = max (mxTo d k) (d.row k).length := by
  unfold mxTo
  rw [List.range_succ, List.map_append, List.foldl_append]; rfl
theorem mxTo_four (d : Dr) : mxTo d 4 = maxR d := by
  simp only [mxTo_succ]
  simp only [mxTo, List.range_zero, List.map_nil, List.foldl_nil, maxR, Dr.row]
  omega
theorem mxTo_le (d : Dr) : ∀ k, mxTo d k ≤ maxR d
  | 0 => Nat.zero_le _
  | k + 1 => by rw [mxTo_succ]; have := mxTo_le d k; have := row_le d k; omega
structure AllX where
  i : Nat
  v : Value
  L : List (Spo × Slo)
  g : PH
theorem neL_app (a b : List (Spo × Slo)) : neL (a ++ b) = neL a ++ neL b := List.filter_append ..
theorem neL_cons (e : Spo × Slo) (b : List (Spo × Slo)) : neL (e :: b) = (if e.2 = slo0 then [] else [e]) ++ neL b := by
  unfold neL
  rw [List.filter_cons]
  by_cases h : e.2 = slo0 <;> simp [h]
attribute [local irreducible] W WL Does Exec Body Then inBlk RG WR row obj pblk
set_option maxHeartbeats 4000000 in
theorem all_ref (h : PH) (v : Value) (d : Dr) (hv : DrV h v d) (hb : maxR d ≤ 1000000) : Does Try.prog 15 [v] [] h (Ret fun r R' h' => Sl encE 4 h' r (allL d) ∧ R' = []) := by
  have hsl : (allL d).length ≤ 40 * maxR d := Nat.le_trans (List.length_filter_le ..) (slots_len d)
  obtain ⟨x0, x1, x2, x3, rfl, h0, h1, h2, h3⟩ := hv
  have hrow : ∀ k, k < 4 → ∃ xk, [x0, x1, x2, x3][k]? = some xk ∧ Sl encChu 31 h xk (d.row k) := fun k hk => by
    match k, hk with
    | 0, _ => exact ⟨x0, rfl, h0⟩
    | 1, _ => exact ⟨x1, rfl, h1⟩
    | 2, _ => exact ⟨x2, rfl, h2⟩
    | 3, _ => exact ⟨x3, rfl, h3⟩
  have hvc : vcO (drV x0 x1 x2 x3) = some [x0, x1, x2, x3] := by
    obtain ⟨_, _, e0⟩ := h0.shape
    obtain ⟨_, _, e1⟩ := h1.shape
    obtain ⟨_, _, e2⟩ := h2.shape
    obtain ⟨_, _, e3⟩ := h3.shape
    subst e0; subst e1; subst e2; subst e3; rfl
  unfold drV at hvc ⊢
  refine Does_of_W Try.func15 rfl (n := 70) rfl rfl (by simp only [argE] <;> rfl) ?_
  (repeat (first | refine W_seq ?_))
  refine W_region rfl ?_
  refine WL_box rfl rfl hvc rfl rfl rfl ?_
  intro b1
  refine WL_is (X_assign rfl rfl) rfl rfl rfl ?_
  (repeat (first | refine WL_nil ?_ | refine Then_normal ?_ | refine W_seq ?_))
  skip
  refine W_region rfl ?_
  refine WL_is (X_assign rfl rfl) rfl rfl rfl ?_
  (repeat (first | refine WL_nil ?_ | refine Then_normal ?_ | refine W_seq ?_))
  skip
  refine W_region rfl ?_
  refine WL_is (X_assign rfl rfl) rfl rfl rfl ?_
  (repeat (first | refine WL_nil ?_ | refine Then_normal ?_ | refine W_block ?_))
  refine W_loop (X := Nat) (L := fun k => ⟨[(4, .int .i64 (k : Int)), (3, .int .i64 (mxTo d k : Int)), (1, .pointer (some ⟨b1, 0, none⟩))], [], [blk b1 [x0, x1, x2, x3] 25], h⟩) (p := fun k => k ≤ 4) (μ := fun k => 4 - k) 0 ⟨(by repeat (first | exact SubE_nil | refine SubE_cons rfl ?_)), rfl, SubR.refl _, rfl⟩ (Nat.zero_le _) ?_
  rintro k hk
  by_cases hk4 : k < 4
  · obtain ⟨xk, hxk, hsk⟩ := hrow k hk4
    obtain ⟨xa, xc, rfl⟩ := hsk.shape
    have hms := mxTo_succ d k
    have hmi : ((mxTo d (k + 1) : Nat) : Int) = max ((mxTo d k : Nat) : Int) ((d.row k).length : Int) := by rw [hms]; omega
    (repeat (first | refine W_seq ?_))
    refine W_region rfl ?_
    refine WL_is (X_move rfl rfl) rfl rfl rfl ?_
    refine WL_is (X_lss_t rfl rfl rfl (by omega)) rfl rfl rfl ?_
    (repeat (first | refine WL_nil ?_ | refine Then_normal ?_ | refine W_seq ?_ | refine W_skip ?_ | refine W_block ?_ | refine W_true rfl ?_))
    skip
    refine W_region rfl ?_
    refine WL_is (X_move rfl rfl) rfl rfl rfl ?_
    refine WL_is (X_move rfl rfl) rfl rfl rfl ?_
    refine WL_is (X_fieldAddr rfl rfl rfl (by simp only [Nat.zero_add] <;> rfl)) rfl rfl rfl ?_
    refine WL_is (X_index_arr (sz := 1) rfl rfl rfl rfl rfl (by omega) (by omega) (by simp only [Nat.zero_add, Int.toNat_natCast, Nat.mul_one] <;> rfl)) rfl rfl rfl ?_
    refine WL_is (X_load1 rfl rfl (by exact idx0) rfl (by assumption)) rfl rfl rfl ?_
    refine WL_is (X_len_sl rfl rfl rfl (by assumption)) rfl rfl rfl ?_
    refine WL_is (X_max rfl rfl rfl) rfl rfl rfl ?_
    refine WL_is (X_assign rfl rfl) rfl rfl rfl ?_
    (repeat (first | refine WL_nil ?_ | refine Then_normal ?_ | refine inBlk_normal ?_))
    skip
    refine W_region rfl ?_
    refine WL_is (X_move rfl rfl) rfl rfl rfl ?_
    refine WL_is (X_addW rfl rfl rfl (by exact wrap_i64_in (by omega) (by omega))) rfl rfl rfl ?_
    refine WL_is (X_assign rfl rfl) rfl rfl rfl ?_
    (repeat (first | refine WL_nil ?_ | refine Then_normal ?_))
    refine ⟨k + 1, ⟨?_, rfl, SubR.refl _, rfl⟩, hk4, by omega⟩
    dsimp only
    rw [hmi]
    exact (by repeat (first | exact SubE_nil | refine SubE_cons rfl ?_))
  · have hk5 : k = 4 := by omega
    subst hk5
    rw [mxTo_four]
    (repeat (first | refine W_seq ?_))
    refine W_region rfl ?_
    refine WL_is (X_move rfl rfl) rfl rfl rfl ?_
    refine WL_is (X_lss_f rfl rfl rfl (by omega)) rfl rfl rfl ?_
    (repeat (first | refine WL_nil ?_ | refine Then_normal ?_ | refine W_seq ?_ | refine W_exit ?_ | refine Then_exit ?_ | refine inBlk_here ?_ | refine W_false rfl ?_))
    skip
    refine W_region rfl ?_
    refine WL_is (X_assign rfl rfl) rfl rfl rfl ?_
    (repeat (first | refine WL_nil ?_ | refine Then_normal ?_ | refine W_seq ?_))
    skip
    refine W_region rfl ?_
    refine WL_is (X_assign rfl rfl) rfl rfl rfl ?_
    (repeat (first | refine WL_nil ?_ | refine Then_normal ?_ | refine W_block ?_))
    refine W_upd (Upd.nilrow (e := 59) (sz := 4)) ?_
    refine W_loop (X := AllX) (L := fun x => ⟨[(6, .int .i64 (x.i : Int)), (5, x.v), (3, .int .i64 (maxR d : Int)), (1, .pointer (some ⟨b1, 0, none⟩))], [], [rowL encE x.v 59 4 x.L, blk b1 [x0, x1, x2, x3] 25], x.g⟩) (p := fun x => le h x.g ∧ x.i ≤ maxR d ∧ x.L ++ neL (restF d x.i) = allL d) (μ := fun x => maxR d - x.i) ⟨0, .slice none 0 0, [], h⟩ ⟨(by repeat (first | exact SubE_nil | refine SubE_cons rfl ?_)), rfl, SubR.refl _, rfl⟩ ⟨le.refl _, Nat.zero_le _, rfl⟩ ?_
    rintro ⟨c, v1, L1, g1⟩ ⟨hg1, hc, hL1⟩
    dsimp only at hg1 hc hL1 ⊢
    by_cases hcm : c < maxR d
    · rw [restF_step] at hL1
      (repeat (first | refine W_seq ?_))
      refine W_region rfl ?_
      refine WL_is (X_move rfl rfl) rfl rfl rfl ?_
      refine WL_is (X_move rfl rfl) rfl rfl rfl ?_
      refine WL_is (X_lss_t rfl rfl rfl (by omega)) rfl rfl rfl ?_
      (repeat (first | refine WL_nil ?_ | refine Then_normal ?_ | refine W_seq ?_ | refine W_skip ?_ | refine W_block ?_ | refine W_true rfl ?_))
      skip
      refine W_region rfl ?_
      refine WL_is (X_assign rfl rfl) rfl rfl rfl ?_
      (repeat (first | refine WL_nil ?_ | refine Then_normal ?_ | refine W_block ?_))
      refine W_loop (X := AllX) (L := fun x => ⟨[(7, .int .i64 (x.i : Int)), (6, .int .i64 (c : Int)), (5, x.v), (3, .int .i64 (maxR d : Int)), (1, .pointer (some ⟨b1, 0, none⟩))], [], [rowL encE x.v 59 4 x.L, blk b1 [x0, x1, x2, x3] 25], x.g⟩) (p := fun x => le h x.g ∧ x.i ≤ 4 ∧ x.L ++ neL (lineF d c x.i ++ restF d (c + 1)) = allL d) (μ := fun x => 4 - x.i) ⟨0, v1, L1, g1⟩ ⟨(by repeat (first | exact SubE_nil | refine SubE_cons rfl ?_)), rfl, SubR.refl _, rfl⟩ ⟨hg1, Nat.zero_le _, hL1⟩ ?_
      rintro ⟨k, v2, L2, g2⟩ ⟨hg2, hk, hL2⟩
      dsimp only at hg2 hk hL2 ⊢
      by_cases hk4 : k < 4
      · obtain ⟨xk, hxk, hsk⟩ := hrow k hk4
        obtain ⟨xa, xc, rfl⟩ := hsk.shape
        rw [lineF_step d c hk4] at hL2
        by_cases hcl : c < (d.row k).length
        · rw [cellK_some hcl, List.append_assoc] at hL2
          obtain ⟨s0, s1, s2, s3, s4, s5, s6, s7, s8, s9, hsl2⟩ := chu_ten (hsk.1 _ (List.getElem_mem hcl))
          (repeat (first | refine W_seq ?_))
          refine W_region rfl ?_
          refine WL_is (X_move rfl rfl) rfl rfl rfl ?_
          refine WL_is (X_lss_t rfl rfl rfl (by omega)) rfl rfl rfl ?_
          (repeat (first | refine WL_nil ?_ | refine Then_normal ?_ | refine W_seq ?_ | refine W_skip ?_ | refine W_block ?_ | refine W_true rfl ?_))
          skip
          refine W_region rfl ?_
          refine WL_is (X_assign rfl rfl) rfl rfl rfl ?_
          (repeat (first | refine WL_nil ?_ | refine Then_normal ?_ | refine W_block ?_))
          refine W_loop (X := AllX) (L := fun x => ⟨[(8, .int .i64 (x.i : Int)), (7, .int .i64 (k : Int)), (6, .int .i64 (c : Int)), (5, x.v), (3, .int .i64 (maxR d : Int)), (1, .pointer (some ⟨b1, 0, none⟩))], [], [rowL encE x.v 59 4 x.L, blk b1 [x0, x1, x2, x3] 25], x.g⟩) (p := fun x => le h x.g ∧ x.i ≤ 10 ∧ x.L ++ neL (itemsS k c (d.row k)[c] x.i ++ (lineF d c (k + 1) ++ restF d (c + 1))) = allL d) (μ := fun x => 10 - x.i) ⟨0, v2, L2, g2⟩ ⟨(by repeat (first | exact SubE_nil | refine SubE_cons rfl ?_)), rfl, SubR.refl _, rfl⟩ ⟨hg2, Nat.zero_le _, hL2⟩ ?_
          rintro ⟨i, v3, L3, g3⟩ ⟨hg3, hi, hL3⟩
          dsimp only at hg3 hi hL3 ⊢
          have hsk3 := hsk.mono hg3
          by_cases hi10 : i < 10
          · rw [itemsS_step _ _ _ hi10, List.cons_append, neL_cons] at hL3
            have hl10 : (d.row k)[c].sl.length = 10 := by rw [hsl2]; rfl
            have ht3 := take3 (d.row k)[c].sl i (by omega)
            rw [List.getElem?_eq_getElem (show i < (d.row k)[c].sl.length by omega)] at hL3
            simp only [Option.getD_some] at hL3
            have hlen := congrArg List.length hL3
            simp only [List.length_append] at hlen
            (repeat (first | refine W_seq ?_))
            refine W_region rfl ?_
            refine WL_is (X_move rfl rfl) rfl rfl rfl ?_
            refine WL_is (X_lss_t rfl rfl rfl (by omega)) rfl rfl rfl ?_
            refine WL_is (X_move rfl rfl) rfl rfl rfl ?_
            refine WL_is (X_move rfl rfl) rfl rfl rfl ?_
            refine WL_is (X_move rfl rfl) rfl rfl rfl ?_
            refine WL_is (X_fieldAddr rfl rfl rfl (by simp only [Nat.zero_add] <;> rfl)) rfl rfl rfl ?_
            refine WL_is (X_index_arr (sz := 1) rfl rfl rfl rfl rfl (by omega) (by omega) (by simp only [Nat.zero_add, Int.toNat_natCast, Nat.mul_one] <;> rfl)) rfl rfl rfl ?_
            refine WL_is (X_load1 rfl rfl (by exact idx1) rfl (by assumption)) rfl rfl rfl ?_
            refine WL_is (X_len_sl rfl rfl rfl (by assumption)) rfl rfl rfl ?_
            refine WL_is (X_lss_t rfl rfl rfl (by omega)) rfl rfl rfl ?_
            refine WL_is (X_pick_t rfl rfl rfl) rfl rfl rfl ?_
            (repeat (first | refine WL_nil ?_ | refine Then_normal ?_ | refine W_seq ?_ | refine W_skip ?_ | refine W_block ?_ | refine W_true rfl ?_))
            skip
            refine W_region rfl ?_
            refine WL_is (X_move rfl rfl) rfl rfl rfl ?_
            refine WL_is (X_fieldAddr rfl rfl rfl (by simp only [Nat.zero_add] <;> rfl)) rfl rfl rfl ?_
            refine WL_is (X_index_arr (sz := 1) rfl rfl rfl rfl rfl (by omega) (by omega) (by simp only [Nat.zero_add, Int.toNat_natCast, Nat.mul_one] <;> rfl)) rfl rfl rfl ?_
            refine WL_is (X_load1 rfl rfl (by exact idx1) rfl (by assumption)) rfl rfl rfl ?_
            refine WL_is (X_move rfl rfl) rfl rfl rfl ?_
            refine WL_is (X_move rfl rfl) rfl rfl rfl ?_
            (refine WL_index_slN rfl rfl rfl rfl rfl (by assumption) (by omega) rfl rfl rfl ?_; intro p_ hp_)
            (refine WL_fieldAddr_at rfl rfl (by assumption) rfl rfl rfl rfl ?_; intro p_ hp_)
            refine WL_index_arr_at (sz := 3) (o' := i * 3) rfl rfl hp_ rfl rfl rfl (by omega) (by omega) (by simp only [Int.toNat_natCast]) rfl rfl rfl ?_
            intro p9 hp9
            replace hp9 : At g3 p9 (((d.row k)[c].sl.flatMap encSlo).drop (i * 3) |>.take 3) := hp9.front 3
            rw [ht3] at hp9
            generalize (d.row k)[c].sl[i]'(by omega) = x at hL3 hp9 hlen
            unfold encSlo at hp9
            refine WL_is (X_loadA_at rfl rfl (by assumption) rfl rfl rfl) rfl rfl rfl ?_
            (refine WL_alloc rfl rfl rfl rfl rfl rfl ?_; intro b_)
            refine WL_store rfl rfl rfl (by exact idx0) rfl rfl rfl rfl rfl rfl rfl rfl rfl ?_
            (repeat (first | refine WL_nil ?_ | refine Then_normal ?_ | refine W_seq ?_))
            skip
            refine W_region rfl ?_
            refine WL_is (X_loadA rfl rfl (by exact idx0) rfl rfl rfl) rfl rfl rfl ?_
            refine WL_is (X_build rfl rfl rfl) rfl rfl rfl ?_
            by_cases hx : x = slo0
            · rw [if_pos hx, List.nil_append] at hL3
              refine WL_is (X_neA 8 heldOk guardOk rfl rfl rfl rfl rfl rfl (eqSlo_t hx)) rfl rfl rfl ?_
              (repeat (first | refine WL_nil ?_ | refine Then_normal ?_ | refine W_skip ?_ | refine inBlk_normal ?_ | refine W_false rfl ?_))
              skip
              refine W_region rfl ?_
              refine WL_is (X_move rfl rfl) rfl rfl rfl ?_
              refine WL_is (X_addW rfl rfl rfl (by exact wrap_i64_in (by omega) (by omega))) rfl rfl rfl ?_
              refine WL_is (X_assign rfl rfl) rfl rfl rfl ?_
              (repeat (first | refine WL_nil ?_ | refine Then_normal ?_))
              exact ⟨⟨i + 1, v3, L3, g3⟩, ⟨(by repeat (first | exact SubE_nil | refine SubE_cons rfl ?_)), rfl, .skip _ (SubR.refl _), rfl⟩, ⟨hg3, hi10, hL3⟩, by dsimp only; omega⟩
            · rw [if_neg hx, List.singleton_append] at hL3
              rw [if_neg hx] at hlen
              refine WL_is (X_neA 8 heldOk guardOk rfl rfl rfl rfl rfl rfl (eqSlo_f hx)) rfl rfl rfl ?_
              (repeat (first | refine WL_nil ?_ | refine Then_normal ?_ | refine W_true rfl ?_))
              skip
              refine W_region rfl ?_
              refine WL_is (X_move rfl rfl) rfl rfl rfl ?_
              refine WL_is (X_move rfl rfl) rfl rfl rfl ?_
              refine WL_is (X_mulW rfl rfl rfl (by exact wrap_i64_in (by omega) (by omega))) rfl rfl rfl ?_
              refine WL_is (X_addW rfl rfl rfl (by exact wrap_i64_in (by omega) (by omega))) rfl rfl rfl ?_
              refine WL_is (X_move rfl rfl) rfl rfl rfl ?_
              refine WL_is (X_mulW rfl rfl rfl (by exact wrap_i64_in (by omega) (by omega))) rfl rfl rfl ?_
              refine WL_is (X_addW rfl rfl rfl (by exact wrap_i64_in (by omega) (by omega))) rfl rfl rfl ?_
              refine WL_is (X_move rfl rfl) rfl rfl rfl ?_
              refine WL_is (X_addW rfl rfl rfl (by exact wrap_i64_in (by omega) (by omega))) rfl rfl rfl ?_
              refine WL_is (X_loadA rfl rfl (by exact idx0) rfl rfl rfl) rfl rfl rfl ?_
              refine WL_is (X_build rfl rfl rfl) rfl rfl rfl ?_
              refine WL_buildSl (enc := encE) [(⟨(k : Int), (c : Int), (i : Int)⟩, x)] (lenE _) rfl rfl rfl rfl rfl rfl rfl rfl rfl rfl rfl rfl rfl rfl rfl ?_
              intro u H6 M6 hu
              refine WL_append (enc := encE) (L := L3) (L' := [(⟨(k : Int), (c : Int), (i : Int)⟩, x)]) (i := 1) rfl rfl rfl elemE rfl rfl (Src.sl hu) (flatE _) (by simp only [List.length_singleton]; omega) (by simp only [List.length_singleton]; omega) rfl rfl rfl ?_
              intro v4
              simp only [List.set_cons_zero, List.set_cons_succ]
              refine WL_is (X_assign rfl rfl) rfl rfl rfl ?_
              (repeat (first | refine WL_nil ?_ | refine Then_normal ?_ | refine inBlk_normal ?_))
              skip
              refine W_region rfl ?_
              refine WL_is (X_move rfl rfl) rfl rfl rfl ?_
              refine WL_is (X_addW rfl rfl rfl (by exact wrap_i64_in (by omega) (by omega))) rfl rfl rfl ?_
              refine WL_is (X_assign rfl rfl) rfl rfl rfl ?_
              (repeat (first | refine WL_nil ?_ | refine Then_normal ?_))
              refine ⟨⟨i + 1, v4, L3 ++ [(⟨(k : Int), (c : Int), (i : Int)⟩, x)], H6⟩, ⟨(by repeat (first | exact SubE_nil | refine SubE_cons rfl ?_)), rfl, .skip _ (SubR.refl _), rfl⟩, ⟨hg3.trans M6, hi10, ?_⟩, by dsimp only; omega⟩
              dsimp only
              rw [List.append_assoc]; exact hL3
          · have hie : i = 10 := by omega
            subst hie
            rw [itemsS_end, List.nil_append] at hL3
            (repeat (first | refine W_seq ?_))
            refine W_region rfl ?_
            refine WL_is (X_move rfl rfl) rfl rfl rfl ?_
            refine WL_is (X_lss_f rfl rfl rfl (by omega)) rfl rfl rfl ?_
            refine WL_is (X_move rfl rfl) rfl rfl rfl ?_
            refine WL_off rfl rfl rfl ?_
            refine WL_off rfl rfl rfl ?_
            refine WL_off rfl rfl rfl ?_
            refine WL_off rfl rfl rfl ?_
            refine WL_off rfl rfl rfl ?_
            refine WL_off rfl rfl rfl ?_
            refine WL_off rfl rfl rfl ?_
            refine WL_is (X_pick_f rfl rfl rfl) rfl rfl rfl ?_
            (repeat (first | refine WL_nil ?_ | refine Then_normal ?_ | refine W_exit ?_ | refine Then_exit ?_ | refine inBlk_normal ?_ | refine inBlk_here ?_ | refine W_false rfl ?_))
            skip
            refine W_region rfl ?_
            refine WL_is (X_move rfl rfl) rfl rfl rfl ?_
            refine WL_is (X_addW rfl rfl rfl (by exact wrap_i64_in (by omega) (by omega))) rfl rfl rfl ?_
            refine WL_is (X_assign rfl rfl) rfl rfl rfl ?_
            (repeat (first | refine WL_nil ?_ | refine Then_normal ?_))
            exact ⟨⟨k + 1, v3, L3, g3⟩, ⟨(by repeat (first | exact SubE_nil | refine SubE_cons rfl ?_)), rfl, SubR.refl _, rfl⟩, ⟨hg3, hk4, hL3⟩, by dsimp only; omega⟩
        · rw [cellK_none (by omega), List.nil_append] at hL2
          (repeat (first | refine W_seq ?_))
          refine W_region rfl ?_
          refine WL_is (X_move rfl rfl) rfl rfl rfl ?_
          refine WL_is (X_lss_t rfl rfl rfl (by omega)) rfl rfl rfl ?_
          (repeat (first | refine WL_nil ?_ | refine Then_normal ?_ | refine W_seq ?_ | refine W_skip ?_ | refine W_block ?_ | refine W_true rfl ?_))
          skip
          refine W_region rfl ?_
          refine WL_is (X_assign rfl rfl) rfl rfl rfl ?_
          (repeat (first | refine WL_nil ?_ | refine Then_normal ?_ | refine W_block ?_))
          refine W_rounds 1 ?_
          (repeat (first | refine WR_succ ?_ | refine W_seq ?_))
          refine W_region rfl ?_
          refine WL_is (X_move rfl rfl) rfl rfl rfl ?_
          refine WL_is (X_lss_t rfl rfl rfl (by omega)) rfl rfl rfl ?_
          refine WL_is (X_move rfl rfl) rfl rfl rfl ?_
          refine WL_is (X_move rfl rfl) rfl rfl rfl ?_
          refine WL_is (X_move rfl rfl) rfl rfl rfl ?_
          refine WL_is (X_fieldAddr rfl rfl rfl (by simp only [Nat.zero_add] <;> rfl)) rfl rfl rfl ?_
          refine WL_is (X_index_arr (sz := 1) rfl rfl rfl rfl rfl (by omega) (by omega) (by simp only [Nat.zero_add, Int.toNat_natCast, Nat.mul_one] <;> rfl)) rfl rfl rfl ?_
          refine WL_is (X_load1 rfl rfl (by exact idx1) rfl (by assumption)) rfl rfl rfl ?_
          refine WL_is (X_len rfl rfl rfl) rfl rfl rfl ?_
          refine WL_is (X_lss_f rfl rfl rfl (by omega)) rfl rfl rfl ?_
          refine WL_is (X_pick_t rfl rfl rfl) rfl rfl rfl ?_
          (repeat (first | refine WL_nil ?_ | refine Then_normal ?_ | refine W_exit ?_ | refine Then_exit ?_ | refine inBlk_normal ?_ | refine inBlk_here ?_ | refine W_false rfl ?_))
          skip
          refine W_region rfl ?_
          refine WL_is (X_move rfl rfl) rfl rfl rfl ?_
          refine WL_is (X_addW rfl rfl rfl (by exact wrap_i64_in (by omega) (by omega))) rfl rfl rfl ?_
          refine WL_is (X_assign rfl rfl) rfl rfl rfl ?_
          (repeat (first | refine WL_nil ?_ | refine Then_normal ?_))
          exact ⟨⟨k + 1, v2, L2, g2⟩, ⟨(by repeat (first | exact SubE_nil | refine SubE_cons rfl ?_)), rfl, SubR.refl _, rfl⟩, ⟨hg2, hk4, hL2⟩, by dsimp only; omega⟩
      · have hk5 : k = 4 := by omega
        subst hk5
        rw [lineF_end, List.nil_append] at hL2
        (repeat (first | refine W_seq ?_))
        refine W_region rfl ?_
        refine WL_is (X_move rfl rfl) rfl rfl rfl ?_
        refine WL_is (X_lss_f rfl rfl rfl (by omega)) rfl rfl rfl ?_
        (repeat (first | refine WL_nil ?_ | refine Then_normal ?_ | refine W_exit ?_ | refine Then_exit ?_ | refine inBlk_normal ?_ | refine inBlk_here ?_ | refine W_false rfl ?_))
        skip
        refine W_region rfl ?_
        refine WL_is (X_move rfl rfl) rfl rfl rfl ?_
        refine WL_is (X_addW rfl rfl rfl (by exact wrap_i64_in (by omega) (by omega))) rfl rfl rfl ?_
        refine WL_is (X_assign rfl rfl) rfl rfl rfl ?_
        (repeat (first | refine WL_nil ?_ | refine Then_normal ?_))
        exact ⟨⟨c + 1, v2, L2, g2⟩, ⟨(by repeat (first | exact SubE_nil | refine SubE_cons rfl ?_)), rfl, SubR.refl _, rfl⟩, ⟨hg2, hcm, hL2⟩, by dsimp only; omega⟩
    · rw [restF_end (by omega)] at hL1
      have hL : L1 = allL d := by rw [← hL1]; simp [neL]
      (repeat (first | refine W_seq ?_))
      refine W_region rfl ?_
      refine WL_is (X_move rfl rfl) rfl rfl rfl ?_
      refine WL_is (X_move rfl rfl) rfl rfl rfl ?_
      refine WL_is (X_lss_f rfl rfl rfl (by omega)) rfl rfl rfl ?_
      (repeat (first | refine WL_nil ?_ | refine Then_normal ?_ | refine W_seq ?_ | refine W_exit ?_ | refine Then_exit ?_ | refine inBlk_here ?_ | refine W_false rfl ?_))
      skip
      refine W_region rfl ?_
      refine WL_is (X_move rfl rfl) rfl rfl rfl ?_
      refine WL_is (X_assign rfl rfl) rfl rfl rfl ?_
      (repeat (first | refine WL_nil ?_ | refine Then_normal ?_ | refine W_ret ?_))
      refine Body_vals (.cons (.tmp rfl) .nil) rfl ?_
      exact (UpdE.row (enc := encE) 0 rfl (lenE _)).then fun R' h' hl ⟨_, s⟩ => UpdE.of (Upd.sub (SubR.none _)) ⟨by rw [← hL]; exact s, rfl⟩
end Go.Proofs.Ytgpanbmjmpondaa
