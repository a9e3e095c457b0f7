/- Directories: the law on what is asked. -/
import Derived.Test.YtgpanbmjmpondaaDirV
namespace Go.Proofs.Ytgpanbmjmpondaa
set_option maxRecDepth 4000
open Go Go.Par PH
theorem eqSpo_t {a b : Spo} (h : a = b) : eqT Try.prog heldTs 8 32 (spoC a) (spoC b) = some true := by
  subst h
  have h : eqT Try.prog heldTs 8 32 (spoC a) (spoC a) = some ((a.b == a.b) && ((a.c == a.c) && ((a.s == a.s) && true))) := rfl
  rw [h]; simp
theorem small_big {d : Dr} (h : smallD d) : maxR d ≤ 1000000 := Nat.le_trans h.1 (by decide)
theorem small_nms {d : Dr} (h : smallD d) : nmsOk d := fun e he => Nat.le_trans (h.2 e he) (by decide)
theorem find_both {d : Dr} (s : Bs) (hm : mayD d = true) : ∃ p x e is, findR d s = (p, x, e) ∧ findF d s = (p, x, is) ∧ ((is = true ∧ e = 0) ∨ (is = false ∧ e = 3)) := by
  unfold findR findF
  rw [if_pos hm]
  cases fndL s (allL d) with
  | none => exact ⟨_, _, _, _, rfl, rfl, .inr ⟨rfl, rfl⟩⟩
  | some e => exact ⟨_, _, _, _, rfl, rfl, .inl ⟨rfl, rfl⟩⟩
attribute [local irreducible] W WL Does Exec Body Then inBlk RG WR row obj pblk
set_option maxHeartbeats 4000000 in
theorem asks_law (h : PH) (v : Value) (d : Dr) (s : Bs) (f m : Int) (hv : DrV h v d) : Does Try.prog 3 [v, .string (mkB s), .int .i64 f, .int .i64 m] [] h (Ret fun r _ _ => r = .bool true) := by
  have hla := large_fn h v d hv
  have hal := fun h => alive_fn h
  have hsz := mkB_size s
  have hv0 := hv
  obtain ⟨x0, x1, x2, x3, rfl, h0, h1, h2, h3⟩ := hv0
  have hvc : vcO (drV x0 x1 x2 x3) = some [x0, x1, x2, x3] := forceL_all _
  unfold drV at hvc
  unfold drV at hla
  show Does Try.prog 3 [.agg #[x0, x1, x2, x3], _, _, _] [] h _
  refine Does_of_W Try.func3 rfl (n := 189) rfl rfl (by simp only [argE, Nat.reduceAdd] <;> rfl) ?_
  (repeat (first | refine W_seq ?_))
  refine W_region rfl ?_
  refine WL_box rfl rfl hvc rfl rfl rfl ?_
  intro b4
  refine WL_is (X_assign rfl rfl) rfl rfl rfl ?_
  (repeat (first | refine WL_nil ?_ | refine Then_normal ?_ | refine W_seq ?_))
  skip
  refine W_region rfl ?_
  refine WL_is (X_loadA rfl rfl (by exact idx0) rfl rfl rfl) rfl rfl rfl ?_
  refine WL_call rfl rfl rfl Try.func7 rfl rfl rfl rfl hla ?_
  rintro _ _ H1 L1 ⟨⟨b, rfl, hsm⟩, rfl⟩
  simp only [List.nil_append]
  have go2 := hal H1
  cases b with
  | true =>
    refine WL_is (X_move rfl rfl) rfl rfl rfl ?_
    refine WL_off rfl rfl rfl ?_
    refine WL_off rfl rfl rfl ?_
    refine WL_off rfl rfl rfl ?_
    refine WL_is (X_pick_t rfl rfl rfl) rfl rfl rfl ?_
    (repeat (first | refine WL_nil ?_ | refine Then_normal ?_ | refine W_seq ?_ | refine W_true rfl ?_))
    skip
    refine W_region rfl ?_
    refine WL_is (X_callv rfl rfl rfl Try.func8 rfl (by assumption)) rfl rfl rfl ?_
    refine WL_is (X_assign rfl rfl) rfl rfl rfl ?_
    (repeat (first | refine WL_nil ?_ | refine Then_normal ?_ | refine W_ret ?_ | refine Then_ret ?_))
    refine Body_end rfl rfl rfl (SubR.none _) ?_
    rfl
  | false =>
    by_cases hs2 : ((mkB s).size : Int) > 200
    · refine WL_is (X_move rfl rfl) rfl rfl rfl ?_
      refine WL_is (X_move rfl rfl) rfl rfl rfl ?_
      refine WL_is (X_len_str rfl rfl rfl) rfl rfl rfl ?_
      refine WL_is (X_gtr_t rfl rfl rfl (by omega)) rfl rfl rfl ?_
      refine WL_is (X_pick_f rfl rfl rfl) rfl rfl rfl ?_
      (repeat (first | refine WL_nil ?_ | refine Then_normal ?_ | refine W_seq ?_ | refine W_true rfl ?_))
      skip
      refine W_region rfl ?_
      refine WL_is (X_callv rfl rfl rfl Try.func8 rfl (by assumption)) rfl rfl rfl ?_
      refine WL_is (X_assign rfl rfl) rfl rfl rfl ?_
      (repeat (first | refine WL_nil ?_ | refine Then_normal ?_ | refine W_ret ?_ | refine Then_ret ?_))
      refine Body_end rfl rfl rfl (SubR.none _) ?_
      rfl
    · have hsm := hsm rfl
      have hbig := small_big hsm
      have hnm := small_nms hsm
      have hsl : s.length ≤ 1000000 := by omega
      replace hv := hv.mono L1
      have hco := copy_fn H1 _ d hv hbig
      unfold drV at hco
      refine WL_is (X_move rfl rfl) rfl rfl rfl ?_
      refine WL_is (X_move rfl rfl) rfl rfl rfl ?_
      refine WL_is (X_len_str rfl rfl rfl) rfl rfl rfl ?_
      refine WL_is (X_gtr_f rfl rfl rfl (by omega)) rfl rfl rfl ?_
      refine WL_is (X_pick_f rfl rfl rfl) rfl rfl rfl ?_
      (repeat (first | refine WL_nil ?_ | refine Then_normal ?_ | refine W_seq ?_ | refine W_skip ?_ | refine W_false rfl ?_))
      skip
      refine W_region rfl ?_
      refine WL_is (X_loadA rfl rfl (by exact idx0) rfl rfl rfl) rfl rfl rfl ?_
      refine WL_call rfl rfl rfl Try.func9 rfl rfl rfl rfl hco ?_
      rintro _ _ H2 L2 ⟨how, rfl⟩
      simp only [List.nil_append]
      replace hv := hv.mono L2
      have how0 := how
      obtain ⟨y0, y1, y2, y3, rfl, i0, i1, i2, i3⟩ := how0
      obtain ⟨_, _, rfl⟩ := i0.shape
      obtain ⟨_, _, rfl⟩ := i1.shape
      obtain ⟨_, _, rfl⟩ := i2.shape
      obtain ⟨_, _, rfl⟩ := i3.shape
      have cck := check_fn H2 _ d how hbig hnm
      have cfi := find_fn H2 _ d s how hbig hnm
      have cro := room_fn H2 _ d s how hbig hnm hsl
      have cli := list_fn H2 _ d f m how hbig hnm
      obtain ⟨p, x, e, hfr⟩ : ∃ p x e, findR d s = (p, x, e) := ⟨_, _, _, rfl⟩
      obtain ⟨p2, f2, e2, hrr⟩ : ∃ p f e, roomR d s = (p, f, e) := ⟨_, _, _, rfl⟩
      obtain ⟨ll, le_, hlr⟩ : ∃ l e, listR d f m = (l, e) := ⟨_, _, rfl⟩
      rw [hfr] at cfi
      rw [hrr] at cro
      rw [hlr] at cli
      unfold findV spoV sloV at cfi
      unfold roomV spoV at cro
      unfold drV at cck cfi cro cli ⊢
      dsimp only at cfi cro
      (refine WL_alloc rfl rfl rfl rfl rfl rfl ?_; intro b_)
      refine WL_store rfl rfl rfl (by exact idx0) rfl rfl rfl rfl rfl rfl rfl rfl rfl ?_
      (repeat (first | refine WL_nil ?_ | refine Then_normal ?_ | refine W_seq ?_))
      skip
      refine W_region rfl ?_
      refine WL_is (X_loadA rfl rfl (by exact idx0) rfl rfl rfl) rfl rfl rfl ?_
      refine WL_is (X_callv rfl rfl rfl Try.func10 rfl (by assumption)) rfl rfl rfl ?_
      refine WL_is (X_assign rfl rfl) rfl rfl rfl ?_
      (repeat (first | refine WL_nil ?_ | refine Then_normal ?_ | refine W_seq ?_))
      skip
      refine W_region rfl ?_
      refine WL_is (X_loadA rfl rfl (by exact idx0) rfl rfl rfl) rfl rfl rfl ?_
      refine WL_is (X_move rfl rfl) rfl rfl rfl ?_
      refine WL_is (X_callv rfl rfl rfl Try.func11 rfl (by assumption)) rfl rfl rfl ?_
      refine WL_is (X_move rfl rfl) rfl rfl rfl ?_
      refine WL_is (X_extract rfl rfl rfl) rfl rfl rfl ?_
      refine WL_is (X_extract rfl rfl rfl) rfl rfl rfl ?_
      refine WL_is (X_extract rfl rfl rfl) rfl rfl rfl ?_
      (refine WL_alloc rfl rfl rfl rfl rfl rfl ?_; intro b_)
      (refine WL_alloc rfl rfl rfl rfl rfl rfl ?_; intro b_)
      refine WL_store rfl rfl rfl (by exact idx1) rfl rfl rfl rfl rfl rfl rfl rfl rfl ?_
      refine WL_store rfl rfl rfl (by exact idx0) rfl rfl rfl rfl rfl rfl rfl rfl rfl ?_
      refine WL_is (X_assign rfl rfl) rfl rfl rfl ?_
      (repeat (first | refine WL_nil ?_ | refine Then_normal ?_ | refine W_seq ?_))
      skip
      refine W_region rfl ?_
      refine WL_is (X_loadA rfl rfl (by exact idx2) rfl rfl rfl) rfl rfl rfl ?_
      refine WL_is (X_move rfl rfl) rfl rfl rfl ?_
      refine WL_is (X_callv rfl rfl rfl Try.func12 rfl (by assumption)) rfl rfl rfl ?_
      refine WL_is (X_move rfl rfl) rfl rfl rfl ?_
      refine WL_is (X_extract rfl rfl rfl) rfl rfl rfl ?_
      refine WL_is (X_extract rfl rfl rfl) rfl rfl rfl ?_
      refine WL_is (X_extract rfl rfl rfl) rfl rfl rfl ?_
      (refine WL_alloc rfl rfl rfl rfl rfl rfl ?_; intro b_)
      refine WL_store rfl rfl rfl (by exact idx0) rfl rfl rfl rfl rfl rfl rfl rfl rfl ?_
      refine WL_is (X_assign rfl rfl) rfl rfl rfl ?_
      refine WL_is (X_assign rfl rfl) rfl rfl rfl ?_
      (repeat (first | refine WL_nil ?_ | refine Then_normal ?_ | refine W_seq ?_))
      skip
      refine W_region rfl ?_
      refine WL_is (X_loadA rfl rfl (by exact idx3) rfl rfl rfl) rfl rfl rfl ?_
      refine WL_is (X_move rfl rfl) rfl rfl rfl ?_
      refine WL_is (X_move rfl rfl) rfl rfl rfl ?_
      refine WL_call rfl rfl rfl Try.func13 rfl rfl rfl rfl cli ?_
      rintro _ _ H3 L3 ⟨⟨lv, rfl, hlv⟩, rfl⟩
      simp only [List.nil_append]
      dsimp only at hlv
      obtain ⟨la, lc, rfl⟩ := hlv.shape
      replace hv := hv.mono L3
      replace how := how.mono L3
      refine WL_is (X_move rfl rfl) rfl rfl rfl ?_
      refine WL_is (X_extract rfl rfl rfl) rfl rfl rfl ?_
      refine WL_is (X_extract rfl rfl rfl) rfl rfl rfl ?_
      refine WL_is (X_assign rfl rfl) rfl rfl rfl ?_
      refine WL_is (X_assign rfl rfl) rfl rfl rfl ?_
      (repeat (first | refine WL_nil ?_ | refine Then_normal ?_ | refine W_seq ?_))
      have cco := count_fn H3 _ d how hbig
      have call := fun h' hl => all_ref h' _ d (hv.mono hl) hbig
      have csa := fun h' hl => same_fn h' _ _ d (how.mono hl) (hv.mono hl) hbig
      have hne : ¬ ((allL d).length : Int) ≠ ((allL d).length : Int) := by omega
      unfold drV at cco call csa
      skip
      refine W_draw0 9 rfl rfl rfl rfl ?_
      refine RG_val rfl rfl (fun _ => rfl) (fun _ => X_loadA rfl rfl (by exact idx3) rfl rfl rfl) ?_
      refine RG_val rfl rfl (fun _ => rfl) (fun _ => X_callv rfl rfl rfl Try.func14 rfl (by assumption)) ?_
      refine RG_val rfl rfl (fun _ => rfl) (fun _ => X_loadA rfl rfl (by exact idx4) rfl rfl rfl) ?_
      refine RG_callo (fun v h' => Sl encE 4 h' v (allL d)) (fun _ _ _ hl h => h.mono hl) rfl (fun _ => rfl) (fun _ => rfl) Try.func15 rfl rfl rfl (fun _ => rfl) (fun vs h' hl _ => (call h' hl).wkn (fun _ _ _ _ h => h.1)) ?_
      refine RG_valO (.int .i64 ((allL d).length : Int)) rfl rfl (fun _ => rfl) (fun vs h' hl hf => X_len_sl rfl rfl rfl hf.1) ?_
      refine RG_val rfl rfl (fun _ => rfl) (fun _ => X_neq_f rfl rfl rfl (by omega)) ?_
      refine RG_val rfl rfl (fun _ => rfl) (fun _ => X_move rfl rfl) ?_
      refine RG_val rfl rfl (fun _ => rfl) (fun _ => X_loadA rfl rfl (by exact idx3) rfl rfl rfl) ?_
      refine RG_val rfl rfl (fun _ => rfl) (fun _ => X_loadA rfl rfl (by exact idx4) rfl rfl rfl) ?_
      refine RG_nil ?_
      refine RG_end rfl (fun vs => by simp only [endE, List.cons_append, List.nil_append] <;> rfl) (fun vs => by simp only [endR, List.nil_append, List.append_nil] <;> rfl) (fun vs h' hf => hf) ?_
      rintro vs H4 L4 -
      replace hv := hv.mono L4
      replace how := how.mono L4
      have cs4 := csa H4 L4
      refine WL_is (X_callv rfl rfl rfl Try.func16 rfl (by assumption)) rfl rfl rfl ?_
      refine WL_is (X_not rfl rfl) rfl rfl rfl ?_
      refine WL_is (X_pick_f rfl rfl rfl) rfl rfl rfl ?_
      (repeat (first | refine WL_nil ?_ | refine Then_normal ?_ | refine W_seq ?_ | refine W_skip ?_ | refine W_false rfl ?_))
      have cmy := may_ref H4 _ d hv hbig hnm
      unfold drV at cmy
      have hal4 := hal H4
      cases hm : mayD d with
      | false =>
        rw [hm] at cmy
        have hchk : checkD d = 2 := by unfold checkD; rw [hm]; rfl
        have hfr2 : findR d s = (spo0, slo0, 2) := by unfold findR; rw [hm]; rfl
        have hrr2 : roomR d s = (spo0, false, 2) := by unfold roomR; rw [hm, if_neg (by simp)]
        have hlr2 : listR d f m = ([], 2) := by unfold listR; rw [hm, if_neg (by simp)]
        rw [hfr] at hfr2; cases hfr2
        rw [hrr] at hrr2; cases hrr2
        rw [hlr] at hlr2; cases hlr2
        have hl0 : (([] : List (Spo × Slo)).length : Int) = 0 := rfl
        rw [hchk]
        skip
        refine W_region rfl ?_
        refine WL_is (X_loadA rfl rfl (by exact idx4) rfl rfl rfl) rfl rfl rfl ?_
        refine WL_is (X_callv rfl rfl rfl Try.func17 rfl (by assumption)) rfl rfl rfl ?_
        refine WL_is (X_not rfl rfl) rfl rfl rfl ?_
        (repeat (first | refine WL_nil ?_ | refine Then_normal ?_ | refine W_seq ?_ | refine W_true rfl ?_))
        skip
        refine W_region rfl ?_
        refine WL_is (X_move rfl rfl) rfl rfl rfl ?_
        refine WL_is (X_eql_t rfl rfl rfl (by omega)) rfl rfl rfl ?_
        refine WL_is (X_move rfl rfl) rfl rfl rfl ?_
        refine WL_is (X_move rfl rfl) rfl rfl rfl ?_
        refine WL_is (X_eql_t rfl rfl rfl (by omega)) rfl rfl rfl ?_
        refine WL_is (X_pick_t rfl rfl rfl) rfl rfl rfl ?_
        refine WL_is (X_move rfl rfl) rfl rfl rfl ?_
        refine WL_is (X_loadA rfl rfl (by exact idx2) rfl rfl rfl) rfl rfl rfl ?_
        refine WL_is (X_build rfl rfl rfl) rfl rfl rfl ?_
        refine WL_is (X_eqA 8 heldOk guardOk rfl rfl rfl rfl rfl rfl rfl) rfl rfl rfl ?_
        refine WL_is (X_pick_t rfl rfl rfl) rfl rfl rfl ?_
        refine WL_is (X_move rfl rfl) rfl rfl rfl ?_
        refine WL_is (X_loadA rfl rfl (by exact idx1) rfl rfl rfl) rfl rfl rfl ?_
        refine WL_is (X_build rfl rfl rfl) rfl rfl rfl ?_
        refine WL_is (X_eqA 8 heldOk guardOk rfl rfl rfl rfl rfl rfl rfl) rfl rfl rfl ?_
        refine WL_is (X_pick_t rfl rfl rfl) rfl rfl rfl ?_
        refine WL_is (X_move rfl rfl) rfl rfl rfl ?_
        refine WL_is (X_move rfl rfl) rfl rfl rfl ?_
        refine WL_is (X_eql_t rfl rfl rfl (by omega)) rfl rfl rfl ?_
        refine WL_is (X_pick_t rfl rfl rfl) rfl rfl rfl ?_
        refine WL_is (X_move rfl rfl) rfl rfl rfl ?_
        refine WL_is (X_loadA rfl rfl (by exact idx0) rfl rfl rfl) rfl rfl rfl ?_
        refine WL_is (X_build rfl rfl rfl) rfl rfl rfl ?_
        refine WL_is (X_eqA 8 heldOk guardOk rfl rfl rfl rfl rfl rfl rfl) rfl rfl rfl ?_
        refine WL_is (X_pick_t rfl rfl rfl) rfl rfl rfl ?_
        refine WL_is (X_move rfl rfl) rfl rfl rfl ?_
        refine WL_is (X_move rfl rfl) rfl rfl rfl ?_
        refine WL_is (X_not rfl rfl) rfl rfl rfl ?_
        refine WL_is (X_pick_t rfl rfl rfl) rfl rfl rfl ?_
        refine WL_is (X_move rfl rfl) rfl rfl rfl ?_
        refine WL_is (X_move rfl rfl) rfl rfl rfl ?_
        refine WL_is (X_eql_t rfl rfl rfl (by omega)) rfl rfl rfl ?_
        refine WL_is (X_pick_t rfl rfl rfl) rfl rfl rfl ?_
        refine WL_is (X_move rfl rfl) rfl rfl rfl ?_
        refine WL_is (X_move rfl rfl) rfl rfl rfl ?_
        refine WL_is (X_len rfl rfl rfl) rfl rfl rfl ?_
        refine WL_is (X_eql_t rfl rfl rfl (by omega)) rfl rfl rfl ?_
        refine WL_is (X_pick_t rfl rfl rfl) rfl rfl rfl ?_
        refine WL_is (X_move rfl rfl) rfl rfl rfl ?_
        refine WL_is (X_callv rfl rfl rfl Try.func8 rfl (by assumption)) rfl rfl rfl ?_
        refine WL_is (X_pick_t rfl rfl rfl) rfl rfl rfl ?_
        refine WL_is (X_assign rfl rfl) rfl rfl rfl ?_
        (repeat (first | refine WL_nil ?_ | refine Then_normal ?_ | refine W_ret ?_ | refine Then_ret ?_))
        refine Body_end rfl rfl rfl (SubR.none _) ?_
        rfl
      | true =>
        rw [hm] at cmy
        have hchk : checkD d = 0 := by unfold checkD; rw [hm]; rfl
        rw [hchk]
        obtain ⟨p', x', e', is, hfr2, hff, hcase⟩ := find_both s hm
        rw [hfr] at hfr2; cases hfr2
        have cf2 := find_ref H4 _ d s hv hbig
        have cr2 := room_ref H4 _ d s hv hm hsl
        have cl2 := list_ref H4 _ d f m hv hbig hm
        rw [hff] at cf2
        rw [hrr] at cr2
        rw [hlr] at cl2
        unfold findFV spoV sloV at cf2
        unfold roomV spoV at cr2
        unfold drV at cf2 cr2 cl2
        dsimp only at cf2 cr2
        have hlll : ll.length ≤ 100000000 := by
          have h1 : ll = (listR d f m).1 := by rw [hlr]
          rw [h1]; unfold listR
          split
          · refine Nat.le_trans (List.length_take_le' ..) (Nat.le_trans (List.length_filter_le ..) ?_)
            have h2 := Nat.le_trans (List.length_filter_le (fun e : Spo × Slo => !decide (e.2 = slo0)) (slotsL d)) (slots_len d)
            unfold allL neL
            have := hsm.1
            omega
          · exact Nat.zero_le _
        skip
        refine W_region rfl ?_
        refine WL_is (X_loadA rfl rfl (by exact idx4) rfl rfl rfl) rfl rfl rfl ?_
        refine WL_is (X_callv rfl rfl rfl Try.func17 rfl (by assumption)) rfl rfl rfl ?_
        refine WL_is (X_not rfl rfl) rfl rfl rfl ?_
        (repeat (first | refine WL_nil ?_ | refine Then_normal ?_ | refine W_seq ?_ | refine W_skip ?_ | refine W_false rfl ?_))
        skip
        refine W_region rfl ?_
        refine WL_is (X_loadA rfl rfl (by exact idx4) rfl rfl rfl) rfl rfl rfl ?_
        refine WL_is (X_move rfl rfl) rfl rfl rfl ?_
        refine WL_is (X_callv rfl rfl rfl Try.func18 rfl (by assumption)) rfl rfl rfl ?_
        refine WL_is (X_move rfl rfl) rfl rfl rfl ?_
        refine WL_is (X_extract rfl rfl rfl) rfl rfl rfl ?_
        refine WL_is (X_extract rfl rfl rfl) rfl rfl rfl ?_
        refine WL_is (X_extract rfl rfl rfl) rfl rfl rfl ?_
        (refine WL_alloc rfl rfl rfl rfl rfl rfl ?_; intro b_)
        (refine WL_alloc rfl rfl rfl rfl rfl rfl ?_; intro b_)
        refine WL_store rfl rfl rfl (by exact idx1) rfl rfl rfl rfl rfl rfl rfl rfl rfl ?_
        refine WL_store rfl rfl rfl (by exact idx0) rfl rfl rfl rfl rfl rfl rfl rfl rfl ?_
        refine WL_is (X_assign rfl rfl) rfl rfl rfl ?_
        (repeat (first | refine WL_nil ?_ | refine Then_normal ?_ | refine W_seq ?_))
        skip
        refine W_region rfl ?_
        refine WL_is (X_loadA rfl rfl (by exact idx6) rfl rfl rfl) rfl rfl rfl ?_
        refine WL_is (X_move rfl rfl) rfl rfl rfl ?_
        refine WL_is (X_callv rfl rfl rfl Try.func19 rfl (by assumption)) rfl rfl rfl ?_
        refine WL_is (X_move rfl rfl) rfl rfl rfl ?_
        refine WL_is (X_extract rfl rfl rfl) rfl rfl rfl ?_
        refine WL_is (X_extract rfl rfl rfl) rfl rfl rfl ?_
        refine WL_is (X_extract rfl rfl rfl) rfl rfl rfl ?_
        (refine WL_alloc rfl rfl rfl rfl rfl rfl ?_; intro b_)
        refine WL_store rfl rfl rfl (by exact idx0) rfl rfl rfl rfl rfl rfl rfl rfl rfl ?_
        refine WL_is (X_assign rfl rfl) rfl rfl rfl ?_
        refine WL_is (X_assign rfl rfl) rfl rfl rfl ?_
        (repeat (first | refine WL_nil ?_ | refine Then_normal ?_ | refine W_seq ?_))
        skip
        refine W_region rfl ?_
        refine WL_is (X_loadA rfl rfl (by exact idx7) rfl rfl rfl) rfl rfl rfl ?_
        refine WL_is (X_move rfl rfl) rfl rfl rfl ?_
        refine WL_is (X_move rfl rfl) rfl rfl rfl ?_
        refine WL_call rfl rfl rfl Try.func20 rfl rfl rfl rfl cl2 ?_
        rintro _ _ H5 L5 ⟨⟨lv2, rfl, hlv2⟩, rfl⟩
        simp only [List.nil_append]
        dsimp only at hlv2
        obtain ⟨la2, lc2, rfl⟩ := hlv2.shape
        have hal5 := hal H5
        have cse := same_ent H5 _ _ ll ((hlv.mono L4).mono L5) hlv2 hlll
        refine WL_is (X_move rfl rfl) rfl rfl rfl ?_
        refine WL_is (X_extract rfl rfl rfl) rfl rfl rfl ?_
        refine WL_is (X_extract rfl rfl rfl) rfl rfl rfl ?_
        refine WL_is (X_assign rfl rfl) rfl rfl rfl ?_
        refine WL_is (X_assign rfl rfl) rfl rfl rfl ?_
        (repeat (first | refine WL_nil ?_ | refine Then_normal ?_ | refine W_seq ?_))
        skip
        refine W_region rfl ?_
        refine WL_is (X_move rfl rfl) rfl rfl rfl ?_
        refine WL_is (X_neq_f rfl rfl rfl (by omega)) rfl rfl rfl ?_
        refine WL_is (X_move rfl rfl) rfl rfl rfl ?_
        refine WL_is (X_loadA rfl rfl (by exact idx5) rfl rfl rfl) rfl rfl rfl ?_
        refine WL_is (X_loadA rfl rfl (by exact idx2) rfl rfl rfl) rfl rfl rfl ?_
        refine WL_is (X_neA 8 heldOk guardOk rfl rfl rfl rfl rfl rfl (eqSpo_t (rfl : p = p))) rfl rfl rfl ?_
        refine WL_is (X_pick_f rfl rfl rfl) rfl rfl rfl ?_
        refine WL_is (X_move rfl rfl) rfl rfl rfl ?_
        refine WL_is (X_loadA rfl rfl (by exact idx4) rfl rfl rfl) rfl rfl rfl ?_
        refine WL_is (X_loadA rfl rfl (by exact idx1) rfl rfl rfl) rfl rfl rfl ?_
        refine WL_is (X_neA 8 heldOk guardOk rfl rfl rfl rfl rfl rfl (eqSlo_t (rfl : x = x))) rfl rfl rfl ?_
        have he2 : ¬ e2 ≠ e2 := fun h => h rfl
        rcases hcase with ⟨rfl, rfl⟩ | ⟨rfl, rfl⟩
        · refine WL_is (X_pick_f rfl rfl rfl) rfl rfl rfl ?_
          refine WL_is (X_move rfl rfl) rfl rfl rfl ?_
          refine WL_is (X_move rfl rfl) rfl rfl rfl ?_
          refine WL_is (X_move rfl rfl) rfl rfl rfl ?_
          refine WL_is (X_eql_t rfl rfl rfl (by omega)) rfl rfl rfl ?_
          refine WL_is (X_neB rfl rfl rfl rfl) rfl rfl rfl ?_
          refine WL_is (X_pick_f rfl rfl rfl) rfl rfl rfl ?_
          refine WL_is (X_move rfl rfl) rfl rfl rfl ?_
          refine WL_is (X_move rfl rfl) rfl rfl rfl ?_
          refine WL_is (X_not rfl rfl) rfl rfl rfl ?_
          refine WL_is (X_move rfl rfl) rfl rfl rfl ?_
          refine WL_off rfl rfl rfl ?_
          refine WL_off rfl rfl rfl ?_
          refine WL_is (X_pick_f rfl rfl rfl) rfl rfl rfl ?_
          refine WL_is (X_pick_f rfl rfl rfl) rfl rfl rfl ?_
          (repeat (first | refine WL_nil ?_ | refine Then_normal ?_ | refine W_seq ?_ | refine W_skip ?_ | refine W_false rfl ?_))
          skip
          refine W_region rfl ?_
          refine WL_is (X_loadA rfl rfl (by exact idx3) rfl rfl rfl) rfl rfl rfl ?_
          refine WL_is (X_loadA rfl rfl (by exact idx0) rfl rfl rfl) rfl rfl rfl ?_
          refine WL_is (X_eqA 8 heldOk guardOk rfl rfl rfl rfl rfl rfl (eqSpo_t (rfl : p2 = p2))) rfl rfl rfl ?_
          refine WL_is (X_move rfl rfl) rfl rfl rfl ?_
          refine WL_is (X_move rfl rfl) rfl rfl rfl ?_
          refine WL_is (X_move rfl rfl) rfl rfl rfl ?_
          refine WL_is (X_eqB_t rfl rfl rfl rfl (by rfl)) rfl rfl rfl ?_
          refine WL_is (X_pick_t rfl rfl rfl) rfl rfl rfl ?_
          refine WL_is (X_move rfl rfl) rfl rfl rfl ?_
          refine WL_is (X_move rfl rfl) rfl rfl rfl ?_
          refine WL_is (X_move rfl rfl) rfl rfl rfl ?_
          refine WL_is (X_eql_t rfl rfl rfl (by omega)) rfl rfl rfl ?_
          refine WL_is (X_pick_t rfl rfl rfl) rfl rfl rfl ?_
          refine WL_is (X_move rfl rfl) rfl rfl rfl ?_
          refine WL_is (X_move rfl rfl) rfl rfl rfl ?_
          refine WL_is (X_move rfl rfl) rfl rfl rfl ?_
          refine WL_is (X_callv rfl rfl rfl Try.func21 rfl (by assumption)) rfl rfl rfl ?_
          refine WL_is (X_pick_t rfl rfl rfl) rfl rfl rfl ?_
          refine WL_is (X_move rfl rfl) rfl rfl rfl ?_
          refine WL_is (X_move rfl rfl) rfl rfl rfl ?_
          refine WL_is (X_move rfl rfl) rfl rfl rfl ?_
          refine WL_is (X_eql_t rfl rfl rfl (by omega)) rfl rfl rfl ?_
          refine WL_is (X_pick_t rfl rfl rfl) rfl rfl rfl ?_
          refine WL_is (X_move rfl rfl) rfl rfl rfl ?_
          refine WL_is (X_callv rfl rfl rfl Try.func8 rfl (by assumption)) rfl rfl rfl ?_
          refine WL_is (X_pick_t rfl rfl rfl) rfl rfl rfl ?_
          refine WL_is (X_assign rfl rfl) rfl rfl rfl ?_
          (repeat (first | refine WL_nil ?_ | refine Then_normal ?_ | refine W_ret ?_))
          refine Body_end rfl rfl rfl (SubR.none _) ?_
          rfl
        · refine WL_is (X_pick_f rfl rfl rfl) rfl rfl rfl ?_
          refine WL_is (X_move rfl rfl) rfl rfl rfl ?_
          refine WL_is (X_move rfl rfl) rfl rfl rfl ?_
          refine WL_is (X_move rfl rfl) rfl rfl rfl ?_
          refine WL_is (X_eql_f rfl rfl rfl (by omega)) rfl rfl rfl ?_
          refine WL_is (X_neB rfl rfl rfl rfl) rfl rfl rfl ?_
          refine WL_is (X_pick_f rfl rfl rfl) rfl rfl rfl ?_
          refine WL_is (X_move rfl rfl) rfl rfl rfl ?_
          refine WL_is (X_move rfl rfl) rfl rfl rfl ?_
          refine WL_is (X_not rfl rfl) rfl rfl rfl ?_
          refine WL_is (X_move rfl rfl) rfl rfl rfl ?_
          refine WL_is (X_move rfl rfl) rfl rfl rfl ?_
          refine WL_is (X_neq_f rfl rfl rfl (by omega)) rfl rfl rfl ?_
          refine WL_is (X_pick_t rfl rfl rfl) rfl rfl rfl ?_
          refine WL_is (X_pick_f rfl rfl rfl) rfl rfl rfl ?_
          (repeat (first | refine WL_nil ?_ | refine Then_normal ?_ | refine W_seq ?_ | refine W_skip ?_ | refine W_false rfl ?_))
          skip
          refine W_region rfl ?_
          refine WL_is (X_loadA rfl rfl (by exact idx3) rfl rfl rfl) rfl rfl rfl ?_
          refine WL_is (X_loadA rfl rfl (by exact idx0) rfl rfl rfl) rfl rfl rfl ?_
          refine WL_is (X_eqA 8 heldOk guardOk rfl rfl rfl rfl rfl rfl (eqSpo_t (rfl : p2 = p2))) rfl rfl rfl ?_
          refine WL_is (X_move rfl rfl) rfl rfl rfl ?_
          refine WL_is (X_move rfl rfl) rfl rfl rfl ?_
          refine WL_is (X_move rfl rfl) rfl rfl rfl ?_
          refine WL_is (X_eqB_t rfl rfl rfl rfl (by rfl)) rfl rfl rfl ?_
          refine WL_is (X_pick_t rfl rfl rfl) rfl rfl rfl ?_
          refine WL_is (X_move rfl rfl) rfl rfl rfl ?_
          refine WL_is (X_move rfl rfl) rfl rfl rfl ?_
          refine WL_is (X_move rfl rfl) rfl rfl rfl ?_
          refine WL_is (X_eql_t rfl rfl rfl (by omega)) rfl rfl rfl ?_
          refine WL_is (X_pick_t rfl rfl rfl) rfl rfl rfl ?_
          refine WL_is (X_move rfl rfl) rfl rfl rfl ?_
          refine WL_is (X_move rfl rfl) rfl rfl rfl ?_
          refine WL_is (X_move rfl rfl) rfl rfl rfl ?_
          refine WL_is (X_callv rfl rfl rfl Try.func21 rfl (by assumption)) rfl rfl rfl ?_
          refine WL_is (X_pick_t rfl rfl rfl) rfl rfl rfl ?_
          refine WL_is (X_move rfl rfl) rfl rfl rfl ?_
          refine WL_is (X_move rfl rfl) rfl rfl rfl ?_
          refine WL_is (X_move rfl rfl) rfl rfl rfl ?_
          refine WL_is (X_eql_t rfl rfl rfl (by omega)) rfl rfl rfl ?_
          refine WL_is (X_pick_t rfl rfl rfl) rfl rfl rfl ?_
          refine WL_is (X_move rfl rfl) rfl rfl rfl ?_
          refine WL_is (X_callv rfl rfl rfl Try.func8 rfl (by assumption)) rfl rfl rfl ?_
          refine WL_is (X_pick_t rfl rfl rfl) rfl rfl rfl ?_
          refine WL_is (X_assign rfl rfl) rfl rfl rfl ?_
          (repeat (first | refine WL_nil ?_ | refine Then_normal ?_ | refine W_ret ?_))
          refine Body_end rfl rfl rfl (SubR.none _) ?_
          rfl
end Go.Proofs.Ytgpanbmjmpondaa
