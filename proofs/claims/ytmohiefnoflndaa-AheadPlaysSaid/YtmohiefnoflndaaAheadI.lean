/- Words ahead: what was put last is what is loaded. -/
import Derived.Test.YtmohiefnoflndaaAheadH
namespace Go.Proofs.Ytmohiefnoflndaa
set_option maxRecDepth 4000
open Go Go.Par PH Go.ChangeShapes Go.WideShapes Go.ChangeAt Go.RowKit
attribute [local irreducible] W WL Does Exec Body Then inBlk RG WR row obj pblk
set_option maxHeartbeats 8000000 in
theorem last_law (h : PH) (v : Value) (l : List Stq) (base : Int) (hv : Sl encQ 4 h v l) (hok : ∀ s ∈ l, s.Ok h) : Does Try.prog 4 [v, .int .u64 base] [] h (Ret fun r _ _ => r = .bool true) := by
  have hhe := heavy_fn h v l hv hok
  refine Does_of_W Try.func4 rfl (n := 125) rfl rfl (by simp only [argE, Nat.reduceAdd] <;> rfl) ?_
  cases hb : heavyL l with
  | true =>
    rw [hb] at hhe
    have ha := alive_fn h
    (repeat (first | refine W_seq ?_))
    skip
    refine W_region rfl ?_
    refine WL_is (X_assign rfl rfl) rfl rfl rfl ?_
    (repeat (first | refine WL_nil ?_ | refine Then_normal ?_ | refine W_seq ?_))
    skip
    refine W_region rfl ?_
    refine WL_is (X_move rfl rfl) rfl rfl rfl ?_
    refine WL_is (X_callv rfl rfl rfl Try.func7 rfl (by assumption)) rfl rfl rfl ?_
    (repeat (first | refine WL_nil ?_ | refine Then_normal ?_ | refine W_seq ?_ | refine W_true rfl ?_))
    skip
    refine W_region rfl ?_
    refine WL_is (X_callv rfl rfl rfl Try.func8 rfl (by assumption)) rfl rfl rfl ?_
    refine WL_is (X_assign rfl rfl) rfl rfl rfl ?_
    (repeat (first | refine WL_nil ?_ | refine Then_normal ?_ | refine W_ret ?_ | refine Then_ret ?_))
    refine Body_end rfl rfl rfl (SubR.none _) ?_
    rfl
  | false =>
    rw [hb] at hhe
    obtain ⟨hl150, hl2000⟩ := light hb
    (repeat (first | refine W_seq ?_))
    skip
    refine W_region rfl ?_
    refine WL_is (X_assign rfl rfl) rfl rfl rfl ?_
    (repeat (first | refine WL_nil ?_ | refine Then_normal ?_ | refine W_seq ?_))
    skip
    refine W_region rfl ?_
    refine WL_is (X_move rfl rfl) rfl rfl rfl ?_
    refine WL_is (X_callv rfl rfl rfl Try.func7 rfl (by assumption)) rfl rfl rfl ?_
    (repeat (first | refine WL_nil ?_ | refine Then_normal ?_ | refine W_seq ?_ | refine W_skip ?_ | refine W_false rfl ?_))
    skip
    refine W_region rfl ?_
    refine WL_callR [] [] rfl rfl rfl Try.func9 rfl rfl rfl rfl (.refl _) (new_fn h) ?_
    rintro _ _ h - ⟨ab, mb, rfl, rfl, rfl⟩
    unfold ptB tabR
    refine WL_is (X_assign rfl rfl) rfl rfl rfl ?_
    (repeat (first | refine WL_nil ?_ | refine Then_normal ?_ | refine W_seq ?_))
    skip
    refine W_region rfl ?_
    refine WL_is (X_move rfl rfl) rfl rfl rfl ?_
    refine WL_is (X_eqPn_f rfl rfl rfl rfl) rfl rfl rfl ?_
    (repeat (first | refine WL_nil ?_ | refine Then_normal ?_ | refine W_seq ?_ | refine W_skip ?_ | refine W_false rfl ?_))
    skip
    refine W_region rfl ?_
    (refine WL_alloc rfl rfl rfl rfl rfl rfl ?_; intro b_)
    (repeat (first | refine WL_nil ?_ | refine Then_normal ?_ | refine W_seq ?_))
    generalize b_ = bi
    skip
    refine W_region rfl ?_
    (refine WL_alloc rfl rfl rfl rfl rfl rfl ?_; intro b_)
    (repeat (first | refine WL_nil ?_ | refine Then_normal ?_ | refine W_seq ?_))
    generalize b_ = bw
    skip
    refine W_region rfl ?_
    refine WL_is (X_assign rfl rfl) rfl rfl rfl ?_
    (repeat (first | refine WL_nil ?_ | refine Then_normal ?_ | refine W_seq ?_))
    skip
    refine W_region rfl ?_
    refine WL_is (X_assign rfl rfl) rfl rfl rfl ?_
    (repeat (first | refine WL_nil ?_ | refine Then_normal ?_ | refine W_block ?_))
    refine W_loop (X := (Nat × List (Int × Int)) × (List Bool × List Int) × PH) (L := fun x => ⟨[(9, .int .i64 (x.1.1 : Int)), (8, .int .i64 (x.1.2.length : Int)), (7, .pointer (some ⟨bw, 0, none⟩)), (6, .pointer (some ⟨bi, 0, none⟩)), (5, .pointer (some ⟨ab, 0, none⟩)), (0, v), (1, .int .u64 base)], [], [blk bw (x.2.1.2.map evW) 44, blk bi (x.2.1.1.map Value.bool) 43, blk ab [.map (some mb)] 52, mpB ekI evW mb x.1.2], x.2.2⟩) (p := fun x => x.1.1 ≤ l.length ∧ x.1.2.length ≤ 2000 * x.1.1 ∧ InvA x.1.2 x.2.1.1 x.2.1.2 ∧ le h x.2.2) (μ := fun x => l.length - x.1.1) ((0, []), (List.replicate 64 false, List.replicate 64 0), h) ⟨(by repeat (first | exact SubE_nil | refine SubE_cons rfl ?_)), rfl, SubR.refl _, rfl⟩ ⟨Nat.zero_le _, by simp, InvA.zero, le.refl _⟩ ?_
    rintro ⟨⟨i, T⟩, ⟨I, U⟩, h2⟩ ⟨hi, hT, hA, hle⟩
    dsimp only at hi hT hA hle ⊢
    have hv2 := hv.mono hle
    by_cases hil : i < l.length
    · have hs := (hok l[i] (List.getElem_mem _)).mono hle
      have h20 := hl2000 l[i] (List.getElem_mem _)
      rcases hsd : l[i] with ⟨d, vv, L, sa, sw⟩
      rw [hsd] at hs h20
      obtain ⟨hsl, -, hal, hsa⟩ := hs
      dsimp only at h20 hsl hal hsa
      obtain ⟨xa, xc, rfl⟩ := hsl.shape
      (repeat (first | refine W_seq ?_))
      refine W_region rfl ?_
      refine WL_is (X_move rfl rfl) rfl rfl rfl ?_
      refine WL_is (X_move rfl rfl) rfl rfl rfl ?_
      refine WL_is (X_len_sl rfl rfl rfl (by assumption)) rfl rfl rfl ?_
      refine WL_is (X_lss_t rfl rfl rfl (by omega)) rfl rfl rfl ?_
      (repeat (first | refine WL_nil ?_ | refine Then_normal ?_ | refine W_seq ?_ | refine W_skip ?_ | refine W_block ?_ | refine W_true rfl ?_))
      skip
      refine W_region rfl ?_
      refine WL_is (X_move rfl rfl) rfl rfl rfl ?_
      refine WL_is (X_move rfl rfl) rfl rfl rfl ?_
      (refine WL_index_slN rfl rfl rfl rfl rfl (by assumption) (by omega) rfl rfl rfl ?_; intro p_ hp_)
      rw [hsd] at hp_
      unfold encQ at hp_
      dsimp only at hp_
      refine WL_is (X_loadA_at rfl rfl (by assumption) rfl rfl rfl) rfl rfl rfl ?_
      (refine WL_alloc rfl rfl rfl rfl rfl rfl ?_; intro b_)
      refine WL_store rfl rfl rfl (by exact idx0) rfl rfl rfl rfl rfl rfl rfl rfl rfl ?_
      (repeat (first | refine WL_nil ?_ | refine Then_normal ?_ | refine W_seq ?_))
      generalize b_ = bx
      by_cases hd : d = 0
      · skip
        refine W_region rfl ?_
        refine WL_is (X_fieldAddr rfl rfl rfl (by simp only [Nat.zero_add] <;> rfl)) rfl rfl rfl ?_
        refine WL_is (X_load1 rfl rfl (by exact idx0) rfl rfl) rfl rfl rfl ?_
        refine WL_is (X_eql_t rfl rfl rfl (by omega)) rfl rfl rfl ?_
        (repeat (first | refine WL_nil ?_ | refine Then_normal ?_ | refine W_seq ?_ | refine W_true rfl ?_))
        skip
        refine W_region rfl ?_
        refine WL_is (X_assign rfl rfl) rfl rfl rfl ?_
        (repeat (first | refine WL_nil ?_ | refine Then_normal ?_ | refine W_seq ?_))
        skip
        refine W_region rfl ?_
        refine WL_is (X_assign rfl rfl) rfl rfl rfl ?_
        (repeat (first | refine WL_nil ?_ | refine Then_normal ?_ | refine W_block ?_))
        refine W_upd (Upd.nilrow (e := 38) (sz := 2)) ?_
        refine W_loop (X := (Nat × Value) × (List Bool × List Int)) (L := fun x => ⟨[(12, .int .i64 (x.1.1 : Int)), (11, x.1.2), (10, .pointer (some ⟨bx, 0, none⟩)), (8, .int .i64 ((putT T (nmL (L.take x.1.1))).length : Int)), (9, .int .i64 (i : Int)), (7, .pointer (some ⟨bw, 0, none⟩)), (6, .pointer (some ⟨bi, 0, none⟩)), (5, .pointer (some ⟨ab, 0, none⟩)), (0, v), (1, .int .u64 base)], [], [rowL encR x.1.2 38 2 (nmL (L.take x.1.1)), blk bx [.int .i64 d, .slice xa L.length xc, .int .i64 sa, .int .u64 sw] 33, blk bw (x.2.2.map evW) 44, blk bi (x.2.1.map Value.bool) 43, blk ab [.map (some mb)] 52, mpB ekI evW mb T], h2⟩) (p := fun x => x.1.1 ≤ L.length ∧ (putT T (nmL (L.take x.1.1))).length ≤ T.length + x.1.1 ∧ InvA (putT T (nmL (L.take x.1.1))) x.2.1 x.2.2) (μ := fun x => L.length - x.1.1) ((0, .slice none 0 0), (I, U)) ⟨(by repeat (first | exact SubE_nil | refine SubE_cons rfl ?_)), rfl, SubR.refl _, rfl⟩ ⟨Nat.zero_le _, by simp [nmL, putT], by simpa [nmL, putT] using hA⟩ ?_
        rintro ⟨⟨k, ov⟩, ⟨I2, U2⟩⟩ ⟨hk, hlen, hB⟩
        dsimp only at hk hlen hB ⊢
        by_cases hkl : k < L.length
        · have hin := nm_in L[k].1
          have hnl := nm_lt L[k].1
          have hne := nm_eq L[k].1
          have hsu := nmL_succ hkl
          obtain ⟨a, hae⟩ : ∃ a, a = nm L[k].1 := ⟨_, rfl⟩
          rw [← hae] at hne hnl hsu
          have hx1 := hal L[k] (List.getElem_mem _)
          have hli := hB.li
          have hlu := hB.lu
          have hlen' := hB.len hnl L[k].2
          have hput := hB.put hnl L[k].2
          have hps : putT T (nmL (L.take (k + 1))) = upM (putT T (nmL (L.take k))) (a : Int) L[k].2 := by rw [hsu, putT_snoc]
          rw [← hps] at hlen' hput
          have hci : (I2.map Value.bool)[a]? = some (.bool (I2[a]'(by omega))) := by rw [List.getElem?_map, List.getElem?_eq_getElem (by omega)]; rfl
          obtain ⟨b, hb⟩ : ∃ b, b = I2[a]'(by omega) := ⟨_, rfl⟩
          rw [← hb] at hci hlen'
          (repeat (first | refine W_seq ?_))
          refine W_region rfl ?_
          refine WL_is (X_move rfl rfl) rfl rfl rfl ?_
          refine WL_is (X_fieldAddr rfl rfl rfl (by simp only [Nat.zero_add] <;> rfl)) rfl rfl rfl ?_
          refine WL_is (X_load1 rfl rfl (by exact idx1) rfl rfl) rfl rfl rfl ?_
          refine WL_is (X_len_sl rfl rfl rfl (by assumption)) rfl rfl rfl ?_
          refine WL_is (X_lss_t rfl rfl rfl (by omega)) rfl rfl rfl ?_
          (repeat (first | refine WL_nil ?_ | refine Then_normal ?_ | refine W_seq ?_ | refine W_skip ?_ | refine W_block ?_ | refine W_true rfl ?_))
          skip
          refine W_region rfl ?_
          refine WL_is (X_fieldAddr rfl rfl rfl (by simp only [Nat.zero_add] <;> rfl)) rfl rfl rfl ?_
          refine WL_is (X_load1 rfl rfl (by exact idx1) rfl rfl) rfl rfl rfl ?_
          refine WL_is (X_move rfl rfl) rfl rfl rfl ?_
          (refine WL_index_slN rfl rfl rfl rfl rfl (by assumption) (by omega) rfl rfl rfl ?_; intro p_ hp_)
          (refine WL_fieldAddr_at rfl rfl (by assumption) rfl rfl rfl rfl ?_; intro p_ hp_)
          refine WL_is (X_load1_at rfl rfl (by assumption) rfl rfl) rfl rfl rfl ?_
          refine WL_is (X_tmod rfl rfl rfl (by omega)) rfl rfl rfl ?_
          refine WL_is (X_addW rfl rfl rfl (by exact wrap_i64_in (by omega) (by omega))) rfl rfl rfl ?_
          refine WL_is (X_rem rfl rfl rfl (by omega) (by omega)) rfl rfl rfl ?_
          refine WL_is (X_assign rfl rfl) rfl rfl rfl ?_
          (repeat (first | refine WL_nil ?_ | refine Then_normal ?_ | refine W_seq ?_))
          rw [hne]
          skip
          refine W_region rfl ?_
          refine WL_is (X_move rfl rfl) rfl rfl rfl ?_
          refine WL_is (X_move rfl rfl) rfl rfl rfl ?_
          refine WL_is (X_fieldAddr rfl rfl rfl (by simp only [Nat.zero_add] <;> rfl)) rfl rfl rfl ?_
          refine WL_is (X_load1 rfl rfl (by exact idx1) rfl rfl) rfl rfl rfl ?_
          refine WL_is (X_move rfl rfl) rfl rfl rfl ?_
          (refine WL_index_slN rfl rfl rfl rfl rfl (by assumption) (by omega) rfl rfl rfl ?_; intro p_ hp_)
          (refine WL_fieldAddr_at rfl rfl (by assumption) rfl rfl rfl rfl ?_; intro p_ hp_)
          refine WL_is (X_load1_at rfl rfl (by assumption) rfl rfl) rfl rfl rfl ?_
          refine WL_is (X_build rfl rfl rfl) rfl rfl rfl ?_
          refine WL_buildSlice rfl rfl rfl rfl rfl rfl rfl rfl rfl rfl rfl rfl rfl ?_
          intro u
          refine WL_append (enc := encR) (L' := [((a : Int), L[k].2)]) (i := 1) rfl rfl rfl elemR rfl rfl (Src.own (i := 0) (c := encR ((a : Int), L[k].2)) rfl rfl) (flatR _) (by simp only [List.length_cons, List.length_nil, nmL, List.length_map, List.length_take]; omega) (by simp only [List.length_cons, List.length_nil, nmL, List.length_map, List.length_take]; omega) rfl rfl rfl ?_
          intro ov'
          simp only [List.set_cons_zero, List.set_cons_succ]
          rw [← hsu]
          have hse1 : (I2.map Value.bool).set a (.bool true) = (I2.set a true).map Value.bool := by rw [List.map_set]
          have hse2 : (U2.map evW).set a (.int .u64 L[k].2) = (U2.set a L[k].2).map evW := by rw [List.map_set]; rfl
          cases b with
          | true =>
            have hlen2 : (putT T (nmL (L.take (k + 1)))).length = (putT T (nmL (L.take k))).length := by rw [hlen']; rfl
            refine WL_is (X_assign rfl rfl) rfl rfl rfl ?_
            (repeat (first | refine WL_nil ?_ | refine Then_normal ?_ | refine W_seq ?_))
            skip
            refine W_region rfl ?_
            refine WL_is (X_move rfl rfl) rfl rfl rfl ?_
            refine WL_is (X_index_arr (sz := 1) rfl rfl rfl rfl rfl (by omega) (by omega) (by simp only [Nat.zero_add, Int.toNat_natCast, Nat.mul_one] <;> rfl)) rfl rfl rfl ?_
            refine WL_is (X_load1 rfl rfl (by exact idx4) rfl (by assumption)) rfl rfl rfl ?_
            refine WL_is (X_not rfl rfl) rfl rfl rfl ?_
            (repeat (first | refine WL_nil ?_ | refine Then_normal ?_ | refine W_seq ?_ | refine W_skip ?_ | refine W_false rfl ?_))
            skip
            refine W_region rfl ?_
            refine WL_is (X_move rfl rfl) rfl rfl rfl ?_
            refine WL_is (X_index_arr (sz := 1) rfl rfl rfl rfl rfl (by omega) (by omega) (by simp only [Nat.zero_add, Int.toNat_natCast, Nat.mul_one] <;> rfl)) rfl rfl rfl ?_
            refine WL_storeV (sz := 1) rfl rfl rfl (by exact idx4) rfl (by simp only [vc] <;> rfl) rfl rfl (by (simp only [List.length_map]; omega)) rfl rfl (by simp only [wr] <;> rfl) (by simp only [List.set_cons_zero, List.set_cons_succ] <;> rfl) ?_
            (repeat (first | refine WL_nil ?_ | refine Then_normal ?_))
            skip
            refine W_region rfl ?_
            refine WL_is (X_move rfl rfl) rfl rfl rfl ?_
            refine WL_is (X_fieldAddr rfl rfl rfl (by simp only [Nat.zero_add] <;> rfl)) rfl rfl rfl ?_
            refine WL_is (X_load1 rfl rfl (by exact idx2) rfl rfl) rfl rfl rfl ?_
            refine WL_is (X_move rfl rfl) rfl rfl rfl ?_
            (refine WL_index_slN rfl rfl rfl rfl rfl (by assumption) (by omega) rfl rfl rfl ?_; intro p_ hp_)
            (refine WL_fieldAddr_at rfl rfl (by assumption) rfl rfl rfl rfl ?_; intro p_ hp_)
            refine WL_is (X_load1_at rfl rfl (by assumption) rfl rfl) rfl rfl rfl ?_
            refine WL_is (X_index_arr (sz := 1) rfl rfl rfl rfl rfl (by omega) (by omega) (by simp only [Nat.zero_add, Int.toNat_natCast, Nat.mul_one] <;> rfl)) rfl rfl rfl ?_
            refine WL_storeV (sz := 1) rfl rfl rfl (by exact idx3) rfl (by simp only [vc] <;> rfl) rfl rfl (by (simp only [List.length_map]; omega)) rfl rfl (by simp only [wr] <;> rfl) (by simp only [List.set_cons_zero, List.set_cons_succ] <;> rfl) ?_
            (repeat (first | refine WL_nil ?_ | refine Then_normal ?_ | refine inBlk_normal ?_))
            skip
            refine W_region rfl ?_
            refine WL_is (X_move rfl rfl) rfl rfl rfl ?_
            refine WL_is (X_addW rfl rfl rfl (by exact wrap_i64_in (by omega) (by omega))) rfl rfl rfl ?_
            refine WL_is (X_assign rfl rfl) rfl rfl rfl ?_
            (repeat (first | refine WL_nil ?_ | refine Then_normal ?_))
            refine ⟨((k + 1, ov'), (I2.set a true, U2.set a L[k].2)), ⟨by dsimp only; rw [hlen2]; exact (by repeat (first | exact SubE_nil | refine SubE_cons rfl ?_)), rfl, SubR.skip _ (SubR.of_perm (by rw [hse1, hse2])), rfl⟩, ⟨hkl, by dsimp only; omega, hput⟩, by dsimp only; omega⟩
          | false =>
            have hlen2 : (putT T (nmL (L.take (k + 1)))).length = (putT T (nmL (L.take k))).length + 1 := by rw [hlen']; rfl
            refine WL_is (X_assign rfl rfl) rfl rfl rfl ?_
            (repeat (first | refine WL_nil ?_ | refine Then_normal ?_ | refine W_seq ?_))
            skip
            refine W_region rfl ?_
            refine WL_is (X_move rfl rfl) rfl rfl rfl ?_
            refine WL_is (X_index_arr (sz := 1) rfl rfl rfl rfl rfl (by omega) (by omega) (by simp only [Nat.zero_add, Int.toNat_natCast, Nat.mul_one] <;> rfl)) rfl rfl rfl ?_
            refine WL_is (X_load1 rfl rfl (by exact idx4) rfl (by assumption)) rfl rfl rfl ?_
            refine WL_is (X_not rfl rfl) rfl rfl rfl ?_
            (repeat (first | refine WL_nil ?_ | refine Then_normal ?_ | refine W_true rfl ?_))
            skip
            refine W_region rfl ?_
            refine WL_is (X_move rfl rfl) rfl rfl rfl ?_
            refine WL_is (X_addW rfl rfl rfl (by exact wrap_i64_in (by omega) (by omega))) rfl rfl rfl ?_
            refine WL_is (X_assign rfl rfl) rfl rfl rfl ?_
            (repeat (first | refine WL_nil ?_ | refine Then_normal ?_ | refine W_seq ?_))
            skip
            refine W_region rfl ?_
            refine WL_is (X_move rfl rfl) rfl rfl rfl ?_
            refine WL_is (X_index_arr (sz := 1) rfl rfl rfl rfl rfl (by omega) (by omega) (by simp only [Nat.zero_add, Int.toNat_natCast, Nat.mul_one] <;> rfl)) rfl rfl rfl ?_
            refine WL_storeV (sz := 1) rfl rfl rfl (by exact idx4) rfl (by simp only [vc] <;> rfl) rfl rfl (by (simp only [List.length_map]; omega)) rfl rfl (by simp only [wr] <;> rfl) (by simp only [List.set_cons_zero, List.set_cons_succ] <;> rfl) ?_
            (repeat (first | refine WL_nil ?_ | refine Then_normal ?_))
            skip
            refine W_region rfl ?_
            refine WL_is (X_move rfl rfl) rfl rfl rfl ?_
            refine WL_is (X_fieldAddr rfl rfl rfl (by simp only [Nat.zero_add] <;> rfl)) rfl rfl rfl ?_
            refine WL_is (X_load1 rfl rfl (by exact idx2) rfl rfl) rfl rfl rfl ?_
            refine WL_is (X_move rfl rfl) rfl rfl rfl ?_
            (refine WL_index_slN rfl rfl rfl rfl rfl (by assumption) (by omega) rfl rfl rfl ?_; intro p_ hp_)
            (refine WL_fieldAddr_at rfl rfl (by assumption) rfl rfl rfl rfl ?_; intro p_ hp_)
            refine WL_is (X_load1_at rfl rfl (by assumption) rfl rfl) rfl rfl rfl ?_
            refine WL_is (X_index_arr (sz := 1) rfl rfl rfl rfl rfl (by omega) (by omega) (by simp only [Nat.zero_add, Int.toNat_natCast, Nat.mul_one] <;> rfl)) rfl rfl rfl ?_
            refine WL_storeV (sz := 1) rfl rfl rfl (by exact idx3) rfl (by simp only [vc] <;> rfl) rfl rfl (by (simp only [List.length_map]; omega)) rfl rfl (by simp only [wr] <;> rfl) (by simp only [List.set_cons_zero, List.set_cons_succ] <;> rfl) ?_
            (repeat (first | refine WL_nil ?_ | refine Then_normal ?_ | refine inBlk_normal ?_))
            skip
            refine W_region rfl ?_
            refine WL_is (X_move rfl rfl) rfl rfl rfl ?_
            refine WL_is (X_addW rfl rfl rfl (by exact wrap_i64_in (by omega) (by omega))) rfl rfl rfl ?_
            refine WL_is (X_assign rfl rfl) rfl rfl rfl ?_
            (repeat (first | refine WL_nil ?_ | refine Then_normal ?_))
            refine ⟨((k + 1, ov'), (I2.set a true, U2.set a L[k].2)), ⟨by dsimp only; rw [hlen2]; exact (by repeat (first | exact SubE_nil | refine SubE_cons rfl ?_)), rfl, SubR.skip _ (SubR.of_perm (by rw [hse1, hse2])), rfl⟩, ⟨hkl, by dsimp only; omega, hput⟩, by dsimp only; omega⟩
        · have hke : k = L.length := by omega
          subst hke
          rw [List.take_length] at hlen hB
          rw [List.take_length]
          (repeat (first | refine W_seq ?_))
          refine W_region rfl ?_
          refine WL_is (X_move rfl rfl) rfl rfl rfl ?_
          refine WL_is (X_fieldAddr rfl rfl rfl (by simp only [Nat.zero_add] <;> rfl)) rfl rfl rfl ?_
          refine WL_is (X_load1 rfl rfl (by exact idx1) rfl rfl) rfl rfl rfl ?_
          refine WL_is (X_len_sl rfl rfl rfl (by assumption)) rfl rfl rfl ?_
          refine WL_is (X_lss_f rfl rfl rfl (by omega)) rfl rfl rfl ?_
          (repeat (first | refine WL_nil ?_ | refine Then_normal ?_ | refine W_seq ?_ | refine W_exit ?_ | refine Then_exit ?_ | refine inBlk_here ?_ | refine W_false rfl ?_))
          refine W_updE (UpdE.row (enc := encR) 0 rfl (lenR _)) ?_
          rintro _ h3 hl3 ⟨rfl, hso⟩
          simp only [List.eraseIdx_cons_zero]
          skip
          refine W_region rfl ?_
          refine WL_is (X_move rfl rfl) rfl rfl rfl ?_
          refine WL_is (X_move rfl rfl) rfl rfl rfl ?_
          have hput : Does Try.prog 10 [ptB ab, ov] (tabR ab mb T) h3 (Ret fun r R' h' => r = .int .i64 0 ∧ R' = tabR ab mb (putT T (nmL L)) ∧ h' = h3) := by
            have := put_fn h3 ab mb T (nmL L) ov hso (by simp only [nmL, List.length_map]; omega)
            rw [nmL_neg] at this
            exact this
          refine WL_callR (tabR ab mb T) _ rfl rfl rfl Try.func10 rfl rfl rfl rfl (List.perm_append_comm (l₁ := [_, _, _]) (l₂ := [_, _])) hput ?_
          rintro _ _ h4 hl4 ⟨rfl, rfl, rfl⟩
          refine WL_is (X_neq_f rfl rfl rfl (by omega)) rfl rfl rfl ?_
          (repeat (first | refine WL_nil ?_ | refine Then_normal ?_ | refine W_seq ?_ | refine W_skip ?_ | refine W_false rfl ?_))
          refine W_upd (Upd.sub (R' := tabR ab mb (putT T (nmL L)) ++ [blk bw (U2.map evW) 44, blk bi (I2.map Value.bool) 43]) (by exact SubR_pick 0 rfl (SubR_pick 0 rfl (.skip _ (SubR.refl _))))) ?_
          have hfin : InvA (putT T (nmL L)) (I2) (U2) := hB
          have hlim : (putT T (nmL L)).length ≤ 2000 * (i + 1) := by omega
          have hlf : le h h4 := hle.trans (hl3.trans hl4)
          obtain ⟨T3, hT3⟩ : ∃ T3, T3 = putT T (nmL L) := ⟨_, rfl⟩
          obtain ⟨I3, hI3⟩ : ∃ I3, I3 = I2 := ⟨_, rfl⟩
          obtain ⟨U3, hU3⟩ : ∃ U3, U3 = U2 := ⟨_, rfl⟩
          rw [← hT3, ← hI3, ← hU3] at hfin
          rw [← hT3] at hlim
          simp only [← hT3, ← hI3, ← hU3]
          clear hT3 hI3 hU3
          skip
          refine W_region rfl ?_
          refine WL_is (X_move rfl rfl) rfl rfl rfl ?_
          refine WL_callR (tabR ab mb T3) _ rfl rfl rfl Try.func17 rfl rfl rfl rfl (.refl _) (len_fn h4 ab mb T3) ?_
          rintro _ _ h5 hl5 ⟨rfl, rfl, rfl⟩
          refine WL_is (X_move rfl rfl) rfl rfl rfl ?_
          refine WL_is (X_neq_f rfl rfl rfl (by omega)) rfl rfl rfl ?_
          (repeat (first | refine WL_nil ?_ | refine Then_normal ?_ | refine W_seq ?_ | refine W_skip ?_ | refine W_false rfl ?_))
          skip
          refine W_region rfl ?_
          refine WL_is (X_assign rfl rfl) rfl rfl rfl ?_
          (repeat (first | refine WL_nil ?_ | refine Then_normal ?_ | refine W_block ?_))
          refine W_loop (X := Nat) (L := fun k => ⟨[(15, .int .i64 (k : Int)), (9, .int .i64 (i : Int)), (8, .int .i64 (T3.length : Int)), (7, .pointer (some ⟨bw, 0, none⟩)), (6, .pointer (some ⟨bi, 0, none⟩)), (5, .pointer (some ⟨ab, 0, none⟩)), (0, v), (1, .int .u64 base)], [], tabR ab mb T3 ++ [blk bw (U3.map evW) 44, blk bi (I3.map Value.bool) 43], h5⟩) (p := fun k => k ≤ 64) (μ := fun k => 64 - k) 0 ⟨(by repeat (first | exact SubE_nil | refine SubE_cons rfl ?_)), rfl, SubR.refl _, rfl⟩ (Nat.zero_le _) ?_
          rintro k hk
          have hli := hfin.li
          have hlu := hfin.lu
          by_cases hk64 : k < 64
          · have hlk := hfin.lk k hk64
            have hci : (I3.map Value.bool)[k]? = some (.bool (I3[k]'(by omega))) := by rw [List.getElem?_map, List.getElem?_eq_getElem (by omega)]; rfl
            have hcu : (U3.map evW)[k]? = some (.int .u64 (U3[k]'(by omega))) := by rw [List.getElem?_map, List.getElem?_eq_getElem (by omega)]; rfl
            obtain ⟨b, hb⟩ : ∃ b, b = I3[k]'(by omega) := ⟨_, rfl⟩
            rw [← hb] at hci hlk
            have hld := load_fn h5 ab mb T3 k base
            rw [hlk] at hld
            cases b with
            | true =>
              have hld : Does Try.prog 15 [ptB ab, .int .i64 k, .int .u64 base] (tabR ab mb T3) h5 (Ret fun r R' h' => r = .int .u64 (U3[k]'(by omega)) ∧ R' = tabR ab mb T3 ∧ h' = h5) := hld
              simp only [tabR, List.cons_append, List.nil_append]
              (repeat (first | refine W_seq ?_))
              refine W_region rfl ?_
              refine WL_is (X_move rfl rfl) rfl rfl rfl ?_
              refine WL_is (X_lss_t rfl rfl rfl (by omega)) rfl rfl rfl ?_
              (repeat (first | refine WL_nil ?_ | refine Then_normal ?_ | refine W_seq ?_ | refine W_skip ?_ | refine W_block ?_ | refine W_true rfl ?_))
              skip
              refine W_region rfl ?_
              refine WL_is (X_move rfl rfl) rfl rfl rfl ?_
              refine WL_is (X_assign rfl rfl) rfl rfl rfl ?_
              (repeat (first | refine WL_nil ?_ | refine Then_normal ?_ | refine W_seq ?_))
              skip
              refine W_region rfl ?_
              refine WL_is (X_move rfl rfl) rfl rfl rfl ?_
              refine WL_is (X_index_arr (sz := 1) rfl rfl rfl rfl rfl (by omega) (by omega) (by simp only [Nat.zero_add, Int.toNat_natCast, Nat.mul_one] <;> rfl)) rfl rfl rfl ?_
              refine WL_is (X_load1 rfl rfl (by exact idx3) rfl (by assumption)) rfl rfl rfl ?_
              (repeat (first | refine WL_nil ?_ | refine Then_normal ?_ | refine W_true rfl ?_))
              skip
              refine W_region rfl ?_
              refine WL_is (X_move rfl rfl) rfl rfl rfl ?_
              refine WL_is (X_index_arr (sz := 1) rfl rfl rfl rfl rfl (by omega) (by omega) (by simp only [Nat.zero_add, Int.toNat_natCast, Nat.mul_one] <;> rfl)) rfl rfl rfl ?_
              refine WL_is (X_load1 rfl rfl (by exact idx2) rfl (by assumption)) rfl rfl rfl ?_
              refine WL_is (X_assign rfl rfl) rfl rfl rfl ?_
              (repeat (first | refine WL_nil ?_ | refine Then_normal ?_ | refine W_seq ?_))
              skip
              refine W_region rfl ?_
              refine WL_is (X_move rfl rfl) rfl rfl rfl ?_
              refine WL_is (X_move rfl rfl) rfl rfl rfl ?_
              refine WL_is (X_move rfl rfl) rfl rfl rfl ?_
              refine WL_callR (tabR ab mb T3) _ rfl rfl rfl Try.func15 rfl rfl rfl rfl (.refl _) hld ?_
              rintro _ _ h6 hl6 ⟨rfl, rfl, rfl⟩
              refine WL_is (X_move rfl rfl) rfl rfl rfl ?_
              refine WL_is (X_neq_f rfl rfl rfl (by omega)) rfl rfl rfl ?_
              (repeat (first | refine WL_nil ?_ | refine Then_normal ?_ | refine W_skip ?_ | refine inBlk_normal ?_ | refine W_false rfl ?_))
              skip
              refine W_region rfl ?_
              refine WL_is (X_move rfl rfl) rfl rfl rfl ?_
              refine WL_is (X_addW rfl rfl rfl (by exact wrap_i64_in (by omega) (by omega))) rfl rfl rfl ?_
              refine WL_is (X_assign rfl rfl) rfl rfl rfl ?_
              (repeat (first | refine WL_nil ?_ | refine Then_normal ?_))
              exact ⟨k + 1, ⟨(by repeat (first | exact SubE_nil | refine SubE_cons rfl ?_)), rfl, SubR.refl _, rfl⟩, hk64, by omega⟩
            | false =>
              have hld : Does Try.prog 15 [ptB ab, .int .i64 k, .int .u64 base] (tabR ab mb T3) h5 (Ret fun r R' h' => r = .int .u64 base ∧ R' = tabR ab mb T3 ∧ h' = h5) := hld
              simp only [tabR, List.cons_append, List.nil_append]
              (repeat (first | refine W_seq ?_))
              refine W_region rfl ?_
              refine WL_is (X_move rfl rfl) rfl rfl rfl ?_
              refine WL_is (X_lss_t rfl rfl rfl (by omega)) rfl rfl rfl ?_
              (repeat (first | refine WL_nil ?_ | refine Then_normal ?_ | refine W_seq ?_ | refine W_skip ?_ | refine W_block ?_ | refine W_true rfl ?_))
              skip
              refine W_region rfl ?_
              refine WL_is (X_move rfl rfl) rfl rfl rfl ?_
              refine WL_is (X_assign rfl rfl) rfl rfl rfl ?_
              (repeat (first | refine WL_nil ?_ | refine Then_normal ?_ | refine W_seq ?_))
              skip
              refine W_region rfl ?_
              refine WL_is (X_move rfl rfl) rfl rfl rfl ?_
              refine WL_is (X_index_arr (sz := 1) rfl rfl rfl rfl rfl (by omega) (by omega) (by simp only [Nat.zero_add, Int.toNat_natCast, Nat.mul_one] <;> rfl)) rfl rfl rfl ?_
              refine WL_is (X_load1 rfl rfl (by exact idx3) rfl (by assumption)) rfl rfl rfl ?_
              (repeat (first | refine WL_nil ?_ | refine Then_normal ?_ | refine W_seq ?_ | refine W_skip ?_ | refine W_false rfl ?_))
              skip
              refine W_region rfl ?_
              refine WL_is (X_move rfl rfl) rfl rfl rfl ?_
              refine WL_is (X_move rfl rfl) rfl rfl rfl ?_
              refine WL_is (X_move rfl rfl) rfl rfl rfl ?_
              refine WL_callR (tabR ab mb T3) _ rfl rfl rfl Try.func15 rfl rfl rfl rfl (.refl _) hld ?_
              rintro _ _ h6 hl6 ⟨rfl, rfl, rfl⟩
              refine WL_is (X_move rfl rfl) rfl rfl rfl ?_
              refine WL_is (X_neq_f rfl rfl rfl (by omega)) rfl rfl rfl ?_
              (repeat (first | refine WL_nil ?_ | refine Then_normal ?_ | refine W_skip ?_ | refine inBlk_normal ?_ | refine W_false rfl ?_))
              skip
              refine W_region rfl ?_
              refine WL_is (X_move rfl rfl) rfl rfl rfl ?_
              refine WL_is (X_addW rfl rfl rfl (by exact wrap_i64_in (by omega) (by omega))) rfl rfl rfl ?_
              refine WL_is (X_assign rfl rfl) rfl rfl rfl ?_
              (repeat (first | refine WL_nil ?_ | refine Then_normal ?_))
              exact ⟨k + 1, ⟨(by repeat (first | exact SubE_nil | refine SubE_cons rfl ?_)), rfl, SubR.refl _, rfl⟩, hk64, by omega⟩
          · have hke : k = 64 := by omega
            subst hke
            (repeat (first | refine W_seq ?_))
            refine W_region rfl ?_
            refine WL_is (X_move rfl rfl) rfl rfl rfl ?_
            refine WL_is (X_lss_f rfl rfl rfl (by omega)) rfl rfl rfl ?_
            (repeat (first | refine WL_nil ?_ | refine Then_normal ?_ | refine W_exit ?_ | refine Then_exit ?_ | refine inBlk_normal ?_ | refine inBlk_here ?_ | refine W_false rfl ?_))
            skip
            refine W_region rfl ?_
            refine WL_is (X_move rfl rfl) rfl rfl rfl ?_
            refine WL_is (X_addW rfl rfl rfl (by exact wrap_i64_in (by omega) (by omega))) rfl rfl rfl ?_
            refine WL_is (X_assign rfl rfl) rfl rfl rfl ?_
            (repeat (first | refine WL_nil ?_ | refine Then_normal ?_))
            refine ⟨((i + 1, T3), (I3, U3), h5), ⟨(by repeat (first | exact SubE_nil | refine SubE_cons rfl ?_)), rfl, SubR.of_perm (List.perm_append_comm (l₁ := [_, _]) (l₂ := [_, _])), rfl⟩, ⟨hil, hlim, hfin, hlf⟩, by dsimp only; omega⟩
      · have hin := nm_in sa
        have hnl := nm_lt sa
        have hne := nm_eq sa
        obtain ⟨a, hae⟩ : ∃ a, a = nm sa := ⟨_, rfl⟩
        rw [← hae] at hne hnl
        have hsi := hA.some_iff hnl
        have hdel := hA.del hnl
        have hli := hA.li
        have hci : (I.map Value.bool)[a]? = some (.bool (I[a]'(by omega))) := by rw [List.getElem?_map, List.getElem?_eq_getElem (by omega)]; rfl
        have hse1 : (I.map Value.bool).set a (.bool false) = (I.set a false).map Value.bool := by rw [List.map_set]
        have hdo := fun h' => done_fn h' ab mb T (a : Int)
        have hld := fun hk => len_delW (L := T) (k := (a : Int)) hk
        obtain ⟨b, hb⟩ : ∃ b, b = I[a]'(by omega) := ⟨_, rfl⟩
        rw [← hb] at hci hsi
        clear hb
        simp only [hsi] at hdo hdel hld
        skip
        refine W_region rfl ?_
        refine WL_is (X_fieldAddr rfl rfl rfl (by simp only [Nat.zero_add] <;> rfl)) rfl rfl rfl ?_
        refine WL_is (X_load1 rfl rfl (by exact idx0) rfl rfl) rfl rfl rfl ?_
        refine WL_is (X_eql_f rfl rfl rfl (by omega)) rfl rfl rfl ?_
        (repeat (first | refine WL_nil ?_ | refine Then_normal ?_ | refine W_seq ?_ | refine W_false rfl ?_))
        skip
        refine W_region rfl ?_
        refine WL_is (X_fieldAddr rfl rfl rfl (by simp only [Nat.zero_add] <;> rfl)) rfl rfl rfl ?_
        refine WL_is (X_load1 rfl rfl (by exact idx0) rfl rfl) rfl rfl rfl ?_
        refine WL_is (X_tmod rfl rfl rfl (by omega)) rfl rfl rfl ?_
        refine WL_is (X_addW rfl rfl rfl (by exact wrap_i64_in (by omega) (by omega))) rfl rfl rfl ?_
        refine WL_is (X_rem rfl rfl rfl (by omega) (by omega)) rfl rfl rfl ?_
        refine WL_is (X_assign rfl rfl) rfl rfl rfl ?_
        (repeat (first | refine WL_nil ?_ | refine Then_normal ?_ | refine W_seq ?_))
        rw [hne]
        cases b with
        | true =>
          have hdo : ∀ h', Does Try.prog 13 [ptB ab, .int .i64 a] (tabR ab mb T) h' (Ret fun r R' h'' => r = .int .i64 0 ∧ R' = tabR ab mb (delM T (a : Int)) ∧ h'' = h') := hdo
          have hdel : InvA (delM T (a : Int)) (I.set a false) U := hdel
          have hld := hld rfl
          skip
          refine W_draw 7 _ [] [blk bx [.int .i64 d, .slice xa L.length xc, .int .i64 sa, .int .u64 sw] 33, blk bw (U.map evW) 44, blk bi (I.map Value.bool) 43] rfl rfl rfl (SubE.refl _) rfl ?_
          refine RG_val rfl rfl (fun _ => rfl) (fun _ => X_move rfl rfl) ?_
          refine RG_val rfl rfl (fun _ => rfl) (fun _ => X_move rfl rfl) ?_
          refine RG_call (.opq (fun u _ => u = .int .i64 0) (tabR ab mb T) (fun _ => tabR ab mb (delM T (a : Int)))) [] _ (fun _ _ _ _ x => x) rfl (fun _ => rfl) (fun _ => rfl) Try.func13 rfl rfl rfl (fun _ => rfl) (.refl _) (fun _ h' _ _ => (hdo h').wkn (fun u R' h'' _ e => ⟨e.1, by rw [e.2.1]; exact SubR.refl _⟩)) ?_
          refine RG_valO (.bool true) rfl rfl (fun _ => rfl) (fun vs h' hl hf => ?_) ?_
          · refine X_eql_t (a := 0) (b := 0) rfl ?_ rfl (by omega)
            exact congrArg some hf.1
          refine RG_val rfl rfl (fun _ => rfl) (fun _ => X_move rfl rfl) ?_
          refine RG_val rfl rfl (fun _ => rfl) (fun _ => X_index_arr (sz := 1) rfl rfl rfl rfl rfl (by omega) (by omega) (by simp only [Nat.zero_add, Int.toNat_natCast, Nat.mul_one] <;> rfl)) ?_
          refine RG_val rfl rfl (fun _ => rfl) (fun _ => X_load1 rfl rfl (by exact idx2) rfl (by assumption)) ?_
          refine RG_nil ?_
          refine RG_endC ((List.perm_append_comm (l₁ := [_, _, _]) (l₂ := [_, _]))) (fun vs => by simp only [endE, List.cons_append, List.nil_append] <;> rfl) (fun vs => by simp only [endR, List.append_nil] <;> rfl) (fun vs h' hf => hf) ?_
          rintro vs h4 hl4 -
          simp only [Nat.zero_add, Nat.reduceAdd, tabR, List.cons_append, List.nil_append]
          refine WL_is (X_neB rfl rfl rfl rfl) rfl rfl rfl ?_
          (repeat (first | refine WL_nil ?_ | refine Then_normal ?_ | refine W_seq ?_ | refine W_skip ?_ | refine W_false rfl ?_))
          skip
          refine W_region rfl ?_
          refine WL_is (X_move rfl rfl) rfl rfl rfl ?_
          refine WL_is (X_index_arr (sz := 1) rfl rfl rfl rfl rfl (by omega) (by omega) (by simp only [Nat.zero_add, Int.toNat_natCast, Nat.mul_one] <;> rfl)) rfl rfl rfl ?_
          refine WL_is (X_load1 rfl rfl (by exact idx4) rfl (by assumption)) rfl rfl rfl ?_
          (repeat (first | refine WL_nil ?_ | refine Then_normal ?_ | refine W_true rfl ?_))
          skip
          refine W_region rfl ?_
          refine WL_is (X_move rfl rfl) rfl rfl rfl ?_
          refine WL_is (X_subW rfl rfl rfl (by exact wrap_i64_in (by omega) (by omega))) rfl rfl rfl ?_
          refine WL_is (X_assign rfl rfl) rfl rfl rfl ?_
          (repeat (first | refine WL_nil ?_ | refine Then_normal ?_))
          skip
          refine W_region rfl ?_
          refine WL_is (X_move rfl rfl) rfl rfl rfl ?_
          refine WL_is (X_index_arr (sz := 1) rfl rfl rfl rfl rfl (by omega) (by omega) (by simp only [Nat.zero_add, Int.toNat_natCast, Nat.mul_one] <;> rfl)) rfl rfl rfl ?_
          refine WL_storeV (sz := 1) rfl rfl rfl (by exact idx4) rfl (by simp only [vc] <;> rfl) rfl rfl (by (simp only [List.length_map]; omega)) rfl rfl (by simp only [wr] <;> rfl) (by simp only [List.set_cons_zero, List.set_cons_succ] <;> rfl) ?_
          (repeat (first | refine WL_nil ?_ | refine Then_normal ?_ | refine W_seq ?_))
          skip
          refine W_region rfl ?_
          refine WL_is (X_move rfl rfl) rfl rfl rfl ?_
          have hlc : ((T.length : Int) - 1) = ((delM T (a : Int)).length : Int) := by omega
          rw [hlc, hse1]
          refine WL_upd (Upd.sub (R' := tabR ab mb (delM T (a : Int)) ++ [blk bw (U.map evW) 44, blk bi ((I.set a false).map Value.bool) 43]) (by exact SubR_pick 0 rfl (SubR_pick 0 rfl (.skip _ (SubR.refl _))))) ?_
          have hfin : InvA (delM T (a : Int)) (I.set a false) (U) := hdel
          have hlim : (delM T (a : Int)).length ≤ 2000 * (i + 1) := by omega
          have hlf : le h h4 := hle.trans hl4
          obtain ⟨T3, hT3⟩ : ∃ T3, T3 = delM T (a : Int) := ⟨_, rfl⟩
          obtain ⟨I3, hI3⟩ : ∃ I3, I3 = I.set a false := ⟨_, rfl⟩
          obtain ⟨U3, hU3⟩ : ∃ U3, U3 = U := ⟨_, rfl⟩
          rw [← hT3, ← hI3, ← hU3] at hfin
          rw [← hT3] at hlim
          simp only [← hT3, ← hI3, ← hU3]
          clear hT3 hI3 hU3
          refine WL_callR (tabR ab mb T3) _ rfl rfl rfl Try.func17 rfl rfl rfl rfl (.refl _) (len_fn h4 ab mb T3) ?_
          rintro _ _ h5 hl5 ⟨rfl, rfl, rfl⟩
          refine WL_is (X_move rfl rfl) rfl rfl rfl ?_
          refine WL_is (X_neq_f rfl rfl rfl (by omega)) rfl rfl rfl ?_
          (repeat (first | refine WL_nil ?_ | refine Then_normal ?_ | refine W_seq ?_ | refine W_skip ?_ | refine W_false rfl ?_))
          skip
          refine W_region rfl ?_
          refine WL_is (X_assign rfl rfl) rfl rfl rfl ?_
          (repeat (first | refine WL_nil ?_ | refine Then_normal ?_ | refine W_block ?_))
          refine W_loop (X := Nat) (L := fun k => ⟨[(15, .int .i64 (k : Int)), (9, .int .i64 (i : Int)), (8, .int .i64 (T3.length : Int)), (7, .pointer (some ⟨bw, 0, none⟩)), (6, .pointer (some ⟨bi, 0, none⟩)), (5, .pointer (some ⟨ab, 0, none⟩)), (0, v), (1, .int .u64 base)], [], tabR ab mb T3 ++ [blk bw (U3.map evW) 44, blk bi (I3.map Value.bool) 43], h5⟩) (p := fun k => k ≤ 64) (μ := fun k => 64 - k) 0 ⟨(by repeat (first | exact SubE_nil | refine SubE_cons rfl ?_)), rfl, SubR.refl _, rfl⟩ (Nat.zero_le _) ?_
          rintro k hk
          have hli := hfin.li
          have hlu := hfin.lu
          by_cases hk64 : k < 64
          · have hlk := hfin.lk k hk64
            have hci : (I3.map Value.bool)[k]? = some (.bool (I3[k]'(by omega))) := by rw [List.getElem?_map, List.getElem?_eq_getElem (by omega)]; rfl
            have hcu : (U3.map evW)[k]? = some (.int .u64 (U3[k]'(by omega))) := by rw [List.getElem?_map, List.getElem?_eq_getElem (by omega)]; rfl
            obtain ⟨b, hb⟩ : ∃ b, b = I3[k]'(by omega) := ⟨_, rfl⟩
            rw [← hb] at hci hlk
            have hld := load_fn h5 ab mb T3 k base
            rw [hlk] at hld
            cases b with
            | true =>
              have hld : Does Try.prog 15 [ptB ab, .int .i64 k, .int .u64 base] (tabR ab mb T3) h5 (Ret fun r R' h' => r = .int .u64 (U3[k]'(by omega)) ∧ R' = tabR ab mb T3 ∧ h' = h5) := hld
              simp only [tabR, List.cons_append, List.nil_append]
              (repeat (first | refine W_seq ?_))
              refine W_region rfl ?_
              refine WL_is (X_move rfl rfl) rfl rfl rfl ?_
              refine WL_is (X_lss_t rfl rfl rfl (by omega)) rfl rfl rfl ?_
              (repeat (first | refine WL_nil ?_ | refine Then_normal ?_ | refine W_seq ?_ | refine W_skip ?_ | refine W_block ?_ | refine W_true rfl ?_))
              skip
              refine W_region rfl ?_
              refine WL_is (X_move rfl rfl) rfl rfl rfl ?_
              refine WL_is (X_assign rfl rfl) rfl rfl rfl ?_
              (repeat (first | refine WL_nil ?_ | refine Then_normal ?_ | refine W_seq ?_))
              skip
              refine W_region rfl ?_
              refine WL_is (X_move rfl rfl) rfl rfl rfl ?_
              refine WL_is (X_index_arr (sz := 1) rfl rfl rfl rfl rfl (by omega) (by omega) (by simp only [Nat.zero_add, Int.toNat_natCast, Nat.mul_one] <;> rfl)) rfl rfl rfl ?_
              refine WL_is (X_load1 rfl rfl (by exact idx3) rfl (by assumption)) rfl rfl rfl ?_
              (repeat (first | refine WL_nil ?_ | refine Then_normal ?_ | refine W_true rfl ?_))
              skip
              refine W_region rfl ?_
              refine WL_is (X_move rfl rfl) rfl rfl rfl ?_
              refine WL_is (X_index_arr (sz := 1) rfl rfl rfl rfl rfl (by omega) (by omega) (by simp only [Nat.zero_add, Int.toNat_natCast, Nat.mul_one] <;> rfl)) rfl rfl rfl ?_
              refine WL_is (X_load1 rfl rfl (by exact idx2) rfl (by assumption)) rfl rfl rfl ?_
              refine WL_is (X_assign rfl rfl) rfl rfl rfl ?_
              (repeat (first | refine WL_nil ?_ | refine Then_normal ?_ | refine W_seq ?_))
              skip
              refine W_region rfl ?_
              refine WL_is (X_move rfl rfl) rfl rfl rfl ?_
              refine WL_is (X_move rfl rfl) rfl rfl rfl ?_
              refine WL_is (X_move rfl rfl) rfl rfl rfl ?_
              refine WL_callR (tabR ab mb T3) _ rfl rfl rfl Try.func15 rfl rfl rfl rfl (.refl _) hld ?_
              rintro _ _ h6 hl6 ⟨rfl, rfl, rfl⟩
              refine WL_is (X_move rfl rfl) rfl rfl rfl ?_
              refine WL_is (X_neq_f rfl rfl rfl (by omega)) rfl rfl rfl ?_
              (repeat (first | refine WL_nil ?_ | refine Then_normal ?_ | refine W_skip ?_ | refine inBlk_normal ?_ | refine W_false rfl ?_))
              skip
              refine W_region rfl ?_
              refine WL_is (X_move rfl rfl) rfl rfl rfl ?_
              refine WL_is (X_addW rfl rfl rfl (by exact wrap_i64_in (by omega) (by omega))) rfl rfl rfl ?_
              refine WL_is (X_assign rfl rfl) rfl rfl rfl ?_
              (repeat (first | refine WL_nil ?_ | refine Then_normal ?_))
              exact ⟨k + 1, ⟨(by repeat (first | exact SubE_nil | refine SubE_cons rfl ?_)), rfl, SubR.refl _, rfl⟩, hk64, by omega⟩
            | false =>
              have hld : Does Try.prog 15 [ptB ab, .int .i64 k, .int .u64 base] (tabR ab mb T3) h5 (Ret fun r R' h' => r = .int .u64 base ∧ R' = tabR ab mb T3 ∧ h' = h5) := hld
              simp only [tabR, List.cons_append, List.nil_append]
              (repeat (first | refine W_seq ?_))
              refine W_region rfl ?_
              refine WL_is (X_move rfl rfl) rfl rfl rfl ?_
              refine WL_is (X_lss_t rfl rfl rfl (by omega)) rfl rfl rfl ?_
              (repeat (first | refine WL_nil ?_ | refine Then_normal ?_ | refine W_seq ?_ | refine W_skip ?_ | refine W_block ?_ | refine W_true rfl ?_))
              skip
              refine W_region rfl ?_
              refine WL_is (X_move rfl rfl) rfl rfl rfl ?_
              refine WL_is (X_assign rfl rfl) rfl rfl rfl ?_
              (repeat (first | refine WL_nil ?_ | refine Then_normal ?_ | refine W_seq ?_))
              skip
              refine W_region rfl ?_
              refine WL_is (X_move rfl rfl) rfl rfl rfl ?_
              refine WL_is (X_index_arr (sz := 1) rfl rfl rfl rfl rfl (by omega) (by omega) (by simp only [Nat.zero_add, Int.toNat_natCast, Nat.mul_one] <;> rfl)) rfl rfl rfl ?_
              refine WL_is (X_load1 rfl rfl (by exact idx3) rfl (by assumption)) rfl rfl rfl ?_
              (repeat (first | refine WL_nil ?_ | refine Then_normal ?_ | refine W_seq ?_ | refine W_skip ?_ | refine W_false rfl ?_))
              skip
              refine W_region rfl ?_
              refine WL_is (X_move rfl rfl) rfl rfl rfl ?_
              refine WL_is (X_move rfl rfl) rfl rfl rfl ?_
              refine WL_is (X_move rfl rfl) rfl rfl rfl ?_
              refine WL_callR (tabR ab mb T3) _ rfl rfl rfl Try.func15 rfl rfl rfl rfl (.refl _) hld ?_
              rintro _ _ h6 hl6 ⟨rfl, rfl, rfl⟩
              refine WL_is (X_move rfl rfl) rfl rfl rfl ?_
              refine WL_is (X_neq_f rfl rfl rfl (by omega)) rfl rfl rfl ?_
              (repeat (first | refine WL_nil ?_ | refine Then_normal ?_ | refine W_skip ?_ | refine inBlk_normal ?_ | refine W_false rfl ?_))
              skip
              refine W_region rfl ?_
              refine WL_is (X_move rfl rfl) rfl rfl rfl ?_
              refine WL_is (X_addW rfl rfl rfl (by exact wrap_i64_in (by omega) (by omega))) rfl rfl rfl ?_
              refine WL_is (X_assign rfl rfl) rfl rfl rfl ?_
              (repeat (first | refine WL_nil ?_ | refine Then_normal ?_))
              exact ⟨k + 1, ⟨(by repeat (first | exact SubE_nil | refine SubE_cons rfl ?_)), rfl, SubR.refl _, rfl⟩, hk64, by omega⟩
          · have hke : k = 64 := by omega
            subst hke
            (repeat (first | refine W_seq ?_))
            refine W_region rfl ?_
            refine WL_is (X_move rfl rfl) rfl rfl rfl ?_
            refine WL_is (X_lss_f rfl rfl rfl (by omega)) rfl rfl rfl ?_
            (repeat (first | refine WL_nil ?_ | refine Then_normal ?_ | refine W_exit ?_ | refine Then_exit ?_ | refine inBlk_normal ?_ | refine inBlk_here ?_ | refine W_false rfl ?_))
            skip
            refine W_region rfl ?_
            refine WL_is (X_move rfl rfl) rfl rfl rfl ?_
            refine WL_is (X_addW rfl rfl rfl (by exact wrap_i64_in (by omega) (by omega))) rfl rfl rfl ?_
            refine WL_is (X_assign rfl rfl) rfl rfl rfl ?_
            (repeat (first | refine WL_nil ?_ | refine Then_normal ?_))
            refine ⟨((i + 1, T3), (I3, U3), h5), ⟨(by repeat (first | exact SubE_nil | refine SubE_cons rfl ?_)), rfl, SubR.of_perm (List.perm_append_comm (l₁ := [_, _]) (l₂ := [_, _])), rfl⟩, ⟨hil, hlim, hfin, hlf⟩, by dsimp only; omega⟩
        | false =>
          have hdo : ∀ h', Does Try.prog 13 [ptB ab, .int .i64 a] (tabR ab mb T) h' (Ret fun r R' h'' => r = .int .i64 3 ∧ R' = tabR ab mb T ∧ h'' = h') := hdo
          have hdel : InvA T (I.set a false) U := hdel
          skip
          refine W_draw 7 _ [] [blk bx [.int .i64 d, .slice xa L.length xc, .int .i64 sa, .int .u64 sw] 33, blk bw (U.map evW) 44, blk bi (I.map Value.bool) 43] rfl rfl rfl (SubE.refl _) rfl ?_
          refine RG_val rfl rfl (fun _ => rfl) (fun _ => X_move rfl rfl) ?_
          refine RG_val rfl rfl (fun _ => rfl) (fun _ => X_move rfl rfl) ?_
          refine RG_call (.opq (fun u _ => u = .int .i64 3) (tabR ab mb T) (fun _ => tabR ab mb (T))) [] _ (fun _ _ _ _ x => x) rfl (fun _ => rfl) (fun _ => rfl) Try.func13 rfl rfl rfl (fun _ => rfl) (.refl _) (fun _ h' _ _ => (hdo h').wkn (fun u R' h'' _ e => ⟨e.1, by rw [e.2.1]; exact SubR.refl _⟩)) ?_
          refine RG_valO (.bool false) rfl rfl (fun _ => rfl) (fun vs h' hl hf => ?_) ?_
          · refine X_eql_f (a := 3) (b := 0) rfl ?_ rfl (by omega)
            exact congrArg some hf.1
          refine RG_val rfl rfl (fun _ => rfl) (fun _ => X_move rfl rfl) ?_
          refine RG_val rfl rfl (fun _ => rfl) (fun _ => X_index_arr (sz := 1) rfl rfl rfl rfl rfl (by omega) (by omega) (by simp only [Nat.zero_add, Int.toNat_natCast, Nat.mul_one] <;> rfl)) ?_
          refine RG_val rfl rfl (fun _ => rfl) (fun _ => X_load1 rfl rfl (by exact idx2) rfl (by assumption)) ?_
          refine RG_nil ?_
          refine RG_endC ((List.perm_append_comm (l₁ := [_, _, _]) (l₂ := [_, _]))) (fun vs => by simp only [endE, List.cons_append, List.nil_append] <;> rfl) (fun vs => by simp only [endR, List.append_nil] <;> rfl) (fun vs h' hf => hf) ?_
          rintro vs h4 hl4 -
          simp only [Nat.zero_add, Nat.reduceAdd, tabR, List.cons_append, List.nil_append]
          refine WL_is (X_neB rfl rfl rfl rfl) rfl rfl rfl ?_
          (repeat (first | refine WL_nil ?_ | refine Then_normal ?_ | refine W_seq ?_ | refine W_skip ?_ | refine W_false rfl ?_))
          skip
          refine W_region rfl ?_
          refine WL_is (X_move rfl rfl) rfl rfl rfl ?_
          refine WL_is (X_index_arr (sz := 1) rfl rfl rfl rfl rfl (by omega) (by omega) (by simp only [Nat.zero_add, Int.toNat_natCast, Nat.mul_one] <;> rfl)) rfl rfl rfl ?_
          refine WL_is (X_load1 rfl rfl (by exact idx4) rfl (by assumption)) rfl rfl rfl ?_
          (repeat (first | refine WL_nil ?_ | refine Then_normal ?_ | refine W_skip ?_ | refine W_false rfl ?_))
          skip
          refine W_region rfl ?_
          refine WL_is (X_move rfl rfl) rfl rfl rfl ?_
          refine WL_is (X_index_arr (sz := 1) rfl rfl rfl rfl rfl (by omega) (by omega) (by simp only [Nat.zero_add, Int.toNat_natCast, Nat.mul_one] <;> rfl)) rfl rfl rfl ?_
          refine WL_storeV (sz := 1) rfl rfl rfl (by exact idx4) rfl (by simp only [vc] <;> rfl) rfl rfl (by (simp only [List.length_map]; omega)) rfl rfl (by simp only [wr] <;> rfl) (by simp only [List.set_cons_zero, List.set_cons_succ] <;> rfl) ?_
          (repeat (first | refine WL_nil ?_ | refine Then_normal ?_ | refine W_seq ?_))
          skip
          refine W_region rfl ?_
          refine WL_is (X_move rfl rfl) rfl rfl rfl ?_
          rw [hse1]
          refine WL_upd (Upd.sub (R' := tabR ab mb T ++ [blk bw (U.map evW) 44, blk bi ((I.set a false).map Value.bool) 43]) (by exact SubR_pick 0 rfl (SubR_pick 0 rfl (.skip _ (SubR.refl _))))) ?_
          have hfin : InvA (T) (I.set a false) (U) := hdel
          have hlim : (T).length ≤ 2000 * (i + 1) := by omega
          have hlf : le h h4 := hle.trans hl4
          obtain ⟨T3, hT3⟩ : ∃ T3, T3 = T := ⟨_, rfl⟩
          obtain ⟨I3, hI3⟩ : ∃ I3, I3 = I.set a false := ⟨_, rfl⟩
          obtain ⟨U3, hU3⟩ : ∃ U3, U3 = U := ⟨_, rfl⟩
          rw [← hT3, ← hI3, ← hU3] at hfin
          rw [← hT3] at hlim
          simp only [← hT3, ← hI3, ← hU3]
          clear hT3 hI3 hU3
          refine WL_callR (tabR ab mb T3) _ rfl rfl rfl Try.func17 rfl rfl rfl rfl (.refl _) (len_fn h4 ab mb T3) ?_
          rintro _ _ h5 hl5 ⟨rfl, rfl, rfl⟩
          refine WL_is (X_move rfl rfl) rfl rfl rfl ?_
          refine WL_is (X_neq_f rfl rfl rfl (by omega)) rfl rfl rfl ?_
          (repeat (first | refine WL_nil ?_ | refine Then_normal ?_ | refine W_seq ?_ | refine W_skip ?_ | refine W_false rfl ?_))
          skip
          refine W_region rfl ?_
          refine WL_is (X_assign rfl rfl) rfl rfl rfl ?_
          (repeat (first | refine WL_nil ?_ | refine Then_normal ?_ | refine W_block ?_))
          refine W_loop (X := Nat) (L := fun k => ⟨[(15, .int .i64 (k : Int)), (9, .int .i64 (i : Int)), (8, .int .i64 (T3.length : Int)), (7, .pointer (some ⟨bw, 0, none⟩)), (6, .pointer (some ⟨bi, 0, none⟩)), (5, .pointer (some ⟨ab, 0, none⟩)), (0, v), (1, .int .u64 base)], [], tabR ab mb T3 ++ [blk bw (U3.map evW) 44, blk bi (I3.map Value.bool) 43], h5⟩) (p := fun k => k ≤ 64) (μ := fun k => 64 - k) 0 ⟨(by repeat (first | exact SubE_nil | refine SubE_cons rfl ?_)), rfl, SubR.refl _, rfl⟩ (Nat.zero_le _) ?_
          rintro k hk
          have hli := hfin.li
          have hlu := hfin.lu
          by_cases hk64 : k < 64
          · have hlk := hfin.lk k hk64
            have hci : (I3.map Value.bool)[k]? = some (.bool (I3[k]'(by omega))) := by rw [List.getElem?_map, List.getElem?_eq_getElem (by omega)]; rfl
            have hcu : (U3.map evW)[k]? = some (.int .u64 (U3[k]'(by omega))) := by rw [List.getElem?_map, List.getElem?_eq_getElem (by omega)]; rfl
            obtain ⟨b, hb⟩ : ∃ b, b = I3[k]'(by omega) := ⟨_, rfl⟩
            rw [← hb] at hci hlk
            have hld := load_fn h5 ab mb T3 k base
            rw [hlk] at hld
            cases b with
            | true =>
              have hld : Does Try.prog 15 [ptB ab, .int .i64 k, .int .u64 base] (tabR ab mb T3) h5 (Ret fun r R' h' => r = .int .u64 (U3[k]'(by omega)) ∧ R' = tabR ab mb T3 ∧ h' = h5) := hld
              simp only [tabR, List.cons_append, List.nil_append]
              (repeat (first | refine W_seq ?_))
              refine W_region rfl ?_
              refine WL_is (X_move rfl rfl) rfl rfl rfl ?_
              refine WL_is (X_lss_t rfl rfl rfl (by omega)) rfl rfl rfl ?_
              (repeat (first | refine WL_nil ?_ | refine Then_normal ?_ | refine W_seq ?_ | refine W_skip ?_ | refine W_block ?_ | refine W_true rfl ?_))
              skip
              refine W_region rfl ?_
              refine WL_is (X_move rfl rfl) rfl rfl rfl ?_
              refine WL_is (X_assign rfl rfl) rfl rfl rfl ?_
              (repeat (first | refine WL_nil ?_ | refine Then_normal ?_ | refine W_seq ?_))
              skip
              refine W_region rfl ?_
              refine WL_is (X_move rfl rfl) rfl rfl rfl ?_
              refine WL_is (X_index_arr (sz := 1) rfl rfl rfl rfl rfl (by omega) (by omega) (by simp only [Nat.zero_add, Int.toNat_natCast, Nat.mul_one] <;> rfl)) rfl rfl rfl ?_
              refine WL_is (X_load1 rfl rfl (by exact idx3) rfl (by assumption)) rfl rfl rfl ?_
              (repeat (first | refine WL_nil ?_ | refine Then_normal ?_ | refine W_true rfl ?_))
              skip
              refine W_region rfl ?_
              refine WL_is (X_move rfl rfl) rfl rfl rfl ?_
              refine WL_is (X_index_arr (sz := 1) rfl rfl rfl rfl rfl (by omega) (by omega) (by simp only [Nat.zero_add, Int.toNat_natCast, Nat.mul_one] <;> rfl)) rfl rfl rfl ?_
              refine WL_is (X_load1 rfl rfl (by exact idx2) rfl (by assumption)) rfl rfl rfl ?_
              refine WL_is (X_assign rfl rfl) rfl rfl rfl ?_
              (repeat (first | refine WL_nil ?_ | refine Then_normal ?_ | refine W_seq ?_))
              skip
              refine W_region rfl ?_
              refine WL_is (X_move rfl rfl) rfl rfl rfl ?_
              refine WL_is (X_move rfl rfl) rfl rfl rfl ?_
              refine WL_is (X_move rfl rfl) rfl rfl rfl ?_
              refine WL_callR (tabR ab mb T3) _ rfl rfl rfl Try.func15 rfl rfl rfl rfl (.refl _) hld ?_
              rintro _ _ h6 hl6 ⟨rfl, rfl, rfl⟩
              refine WL_is (X_move rfl rfl) rfl rfl rfl ?_
              refine WL_is (X_neq_f rfl rfl rfl (by omega)) rfl rfl rfl ?_
              (repeat (first | refine WL_nil ?_ | refine Then_normal ?_ | refine W_skip ?_ | refine inBlk_normal ?_ | refine W_false rfl ?_))
              skip
              refine W_region rfl ?_
              refine WL_is (X_move rfl rfl) rfl rfl rfl ?_
              refine WL_is (X_addW rfl rfl rfl (by exact wrap_i64_in (by omega) (by omega))) rfl rfl rfl ?_
              refine WL_is (X_assign rfl rfl) rfl rfl rfl ?_
              (repeat (first | refine WL_nil ?_ | refine Then_normal ?_))
              exact ⟨k + 1, ⟨(by repeat (first | exact SubE_nil | refine SubE_cons rfl ?_)), rfl, SubR.refl _, rfl⟩, hk64, by omega⟩
            | false =>
              have hld : Does Try.prog 15 [ptB ab, .int .i64 k, .int .u64 base] (tabR ab mb T3) h5 (Ret fun r R' h' => r = .int .u64 base ∧ R' = tabR ab mb T3 ∧ h' = h5) := hld
              simp only [tabR, List.cons_append, List.nil_append]
              (repeat (first | refine W_seq ?_))
              refine W_region rfl ?_
              refine WL_is (X_move rfl rfl) rfl rfl rfl ?_
              refine WL_is (X_lss_t rfl rfl rfl (by omega)) rfl rfl rfl ?_
              (repeat (first | refine WL_nil ?_ | refine Then_normal ?_ | refine W_seq ?_ | refine W_skip ?_ | refine W_block ?_ | refine W_true rfl ?_))
              skip
              refine W_region rfl ?_
              refine WL_is (X_move rfl rfl) rfl rfl rfl ?_
              refine WL_is (X_assign rfl rfl) rfl rfl rfl ?_
              (repeat (first | refine WL_nil ?_ | refine Then_normal ?_ | refine W_seq ?_))
              skip
              refine W_region rfl ?_
              refine WL_is (X_move rfl rfl) rfl rfl rfl ?_
              refine WL_is (X_index_arr (sz := 1) rfl rfl rfl rfl rfl (by omega) (by omega) (by simp only [Nat.zero_add, Int.toNat_natCast, Nat.mul_one] <;> rfl)) rfl rfl rfl ?_
              refine WL_is (X_load1 rfl rfl (by exact idx3) rfl (by assumption)) rfl rfl rfl ?_
              (repeat (first | refine WL_nil ?_ | refine Then_normal ?_ | refine W_seq ?_ | refine W_skip ?_ | refine W_false rfl ?_))
              skip
              refine W_region rfl ?_
              refine WL_is (X_move rfl rfl) rfl rfl rfl ?_
              refine WL_is (X_move rfl rfl) rfl rfl rfl ?_
              refine WL_is (X_move rfl rfl) rfl rfl rfl ?_
              refine WL_callR (tabR ab mb T3) _ rfl rfl rfl Try.func15 rfl rfl rfl rfl (.refl _) hld ?_
              rintro _ _ h6 hl6 ⟨rfl, rfl, rfl⟩
              refine WL_is (X_move rfl rfl) rfl rfl rfl ?_
              refine WL_is (X_neq_f rfl rfl rfl (by omega)) rfl rfl rfl ?_
              (repeat (first | refine WL_nil ?_ | refine Then_normal ?_ | refine W_skip ?_ | refine inBlk_normal ?_ | refine W_false rfl ?_))
              skip
              refine W_region rfl ?_
              refine WL_is (X_move rfl rfl) rfl rfl rfl ?_
              refine WL_is (X_addW rfl rfl rfl (by exact wrap_i64_in (by omega) (by omega))) rfl rfl rfl ?_
              refine WL_is (X_assign rfl rfl) rfl rfl rfl ?_
              (repeat (first | refine WL_nil ?_ | refine Then_normal ?_))
              exact ⟨k + 1, ⟨(by repeat (first | exact SubE_nil | refine SubE_cons rfl ?_)), rfl, SubR.refl _, rfl⟩, hk64, by omega⟩
          · have hke : k = 64 := by omega
            subst hke
            (repeat (first | refine W_seq ?_))
            refine W_region rfl ?_
            refine WL_is (X_move rfl rfl) rfl rfl rfl ?_
            refine WL_is (X_lss_f rfl rfl rfl (by omega)) rfl rfl rfl ?_
            (repeat (first | refine WL_nil ?_ | refine Then_normal ?_ | refine W_exit ?_ | refine Then_exit ?_ | refine inBlk_normal ?_ | refine inBlk_here ?_ | refine W_false rfl ?_))
            skip
            refine W_region rfl ?_
            refine WL_is (X_move rfl rfl) rfl rfl rfl ?_
            refine WL_is (X_addW rfl rfl rfl (by exact wrap_i64_in (by omega) (by omega))) rfl rfl rfl ?_
            refine WL_is (X_assign rfl rfl) rfl rfl rfl ?_
            (repeat (first | refine WL_nil ?_ | refine Then_normal ?_))
            refine ⟨((i + 1, T3), (I3, U3), h5), ⟨(by repeat (first | exact SubE_nil | refine SubE_cons rfl ?_)), rfl, SubR.of_perm (List.perm_append_comm (l₁ := [_, _]) (l₂ := [_, _])), rfl⟩, ⟨hil, hlim, hfin, hlf⟩, by dsimp only; omega⟩
    · have ha := alive_fn h2
      (repeat (first | refine W_seq ?_))
      refine W_region rfl ?_
      refine WL_is (X_move rfl rfl) rfl rfl rfl ?_
      refine WL_is (X_move rfl rfl) rfl rfl rfl ?_
      refine WL_is (X_len_sl rfl rfl rfl (by assumption)) rfl rfl rfl ?_
      refine WL_is (X_lss_f rfl rfl rfl (by omega)) rfl rfl rfl ?_
      (repeat (first | refine WL_nil ?_ | refine Then_normal ?_ | refine W_seq ?_ | refine W_exit ?_ | refine Then_exit ?_ | refine inBlk_here ?_ | refine W_false rfl ?_))
      skip
      refine W_region rfl ?_
      refine WL_is (X_callv rfl rfl rfl Try.func8 rfl (by assumption)) rfl rfl rfl ?_
      refine WL_is (X_assign rfl rfl) rfl rfl rfl ?_
      (repeat (first | refine WL_nil ?_ | refine Then_normal ?_ | refine W_ret ?_))
      refine Body_end rfl rfl rfl (SubR.none _) ?_
      rfl
end Go.Proofs.Ytmohiefnoflndaa
