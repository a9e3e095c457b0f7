/- Directories: the law on names put and taken. -/
import Derived.Test.YtgpanbmjmpondaaDirX
namespace Go.Proofs.Ytgpanbmjmpondaa
set_option maxRecDepth 4000
open Go Go.Par PH
theorem row_put (d : Dr) (k : Nat) (r : List Chu) (q : Nat) (hk : k < 4) (hq : q < 4) : (d.put k r).row q = if q = k then r else d.row q := by
  have hkk : k = 0 ∨ k = 1 ∨ k = 2 ∨ k = 3 := by omega
  have hqq : q = 0 ∨ q = 1 ∨ q = 2 ∨ q = 3 := by omega
  rcases hkk with rfl | rfl | rfl | rfl <;> rcases hqq with rfl | rfl | rfl | rfl <;> rfl
theorem setRw_len (r : List Chu) (c s : Nat) (y : Slo) : (setRw r c s y).length = if c = r.length then r.length + 1 else r.length := by
  unfold setRw grow
  rw [List.length_set]
  split <;> simp
theorem maxR_of {d : Dr} {n : Nat} (h : ∀ k, k < 4 → (d.row k).length ≤ n) : maxR d ≤ n := by
  have a := h 0 (by omega); have b := h 1 (by omega); have c := h 2 (by omega); have e := h 3 (by omega)
  unfold maxR
  simp only [Dr.row] at a b c e
  omega
theorem maxR_with (d : Dr) (k c s : Nat) (y : Slo) (hk : k < 4) : maxR (withD d k c s y) ≤ maxR d + 1 := maxR_of fun q hq => by
  unfold withD
  rw [row_put _ _ _ _ hk hq]
  have := row_le d q
  have := row_le d k
  split
  · rw [setRw_len]; split <;> omega
  · omega
theorem maxR_putR {d : Dr} (hte : ∀ k, k < 4 → tenR (d.row k)) (x : Slo) : maxR (putR d x).1 ≤ maxR d + 1 := by
  unfold putR
  split
  · split
    · rename_i h0
      obtain ⟨k, c, s, h1, hk, hc, hs⟩ := roomR_ok hte h0
      rw [h1]; exact maxR_with _ _ _ _ _ hk
    · exact Nat.zero_le _
  · exact Nat.zero_le _
theorem maxR_takeR (d : Dr) (s : Bs) : maxR (takeR d s).1 ≤ maxR d + 1 := by
  unfold takeR
  split
  · rename_i h0
    obtain ⟨_, _, k, c, i, h1, hk, hc, hs⟩ := findR_ok h0
    rw [h1]; exact maxR_with _ _ _ _ _ hk
  · exact Nat.zero_le _
theorem take_bad {d : Dr} {s : Bs} (h : mayD d = false) : takeR d s = (dr0, 2) := by
  have : findR d s = (spo0, slo0, 2) := by unfold findR; rw [h]; rfl
  unfold takeR; rw [this]; rfl
theorem put_bad {d : Dr} {x : Slo} (h : mayD d = false) : putR d x = (dr0, 2) := by unfold putR; rw [h, if_neg (by simp)]
attribute [local irreducible] W WL Does Exec Body Then inBlk RG WR row obj pblk
set_option maxHeartbeats 4000000 in
theorem turns_law (h : PH) (v : Value) (d : Dr) (x : Slo) (s : Bs) (hv : DrV h v d) : Does Try.prog 4 [v, sloV x, .string (mkB s)] [] h (Ret fun r _ _ => r = .bool true) := by
  have hla := large_fn h v d hv
  have hal := fun h => alive_fn h
  have hsz := mkB_size s
  have hsx := mkB_size x.nm
  have hv0 := hv
  obtain ⟨x0, x1, x2, x3, rfl, h0, h1, h2, h3⟩ := hv0
  have hvc : vcO (drV x0 x1 x2 x3) = some [x0, x1, x2, x3] := forceL_all _
  unfold drV at hvc
  unfold drV at hla
  show Does Try.prog 4 [.agg #[x0, x1, x2, x3], _, _] [] h _
  unfold sloV
  refine Does_of_W Try.func4 rfl (n := 103) rfl rfl (by simp only [argE, Nat.reduceAdd] <;> rfl) ?_
  (repeat (first | refine W_seq ?_))
  refine W_region rfl ?_
  refine WL_box rfl rfl hvc rfl rfl rfl ?_
  intro b3
  (refine WL_box rfl rfl rfl rfl rfl rfl ?_; intro b_)
  refine WL_is (X_assign rfl rfl) rfl rfl rfl ?_
  (repeat (first | refine WL_nil ?_ | refine Then_normal ?_ | refine W_seq ?_))
  skip
  refine W_region rfl ?_
  refine WL_is (X_loadA rfl rfl (by exact idx1) rfl rfl rfl) rfl rfl rfl ?_
  refine WL_call rfl rfl rfl Try.func7 rfl rfl rfl rfl hla ?_
  rintro _ _ H1 L1 ⟨⟨b, rfl, hsm⟩, rfl⟩
  simp only [List.nil_append]
  have go2 := hal H1
  cases b with
  | true =>
    refine WL_is (X_move rfl rfl) rfl rfl rfl ?_
    refine WL_off rfl rfl rfl ?_
    refine WL_off rfl rfl rfl ?_
    refine WL_off rfl rfl rfl ?_
    refine WL_is (X_pick_t rfl rfl rfl) rfl rfl rfl ?_
    refine WL_is (X_move rfl rfl) rfl rfl rfl ?_
    refine WL_off rfl rfl rfl ?_
    refine WL_off rfl rfl rfl ?_
    refine WL_off rfl rfl rfl ?_
    refine WL_off rfl rfl rfl ?_
    refine WL_is (X_pick_t rfl rfl rfl) rfl rfl rfl ?_
    (repeat (first | refine WL_nil ?_ | refine Then_normal ?_ | refine W_seq ?_ | refine W_true rfl ?_))
    skip
    refine W_region rfl ?_
    refine WL_is (X_callv rfl rfl rfl Try.func8 rfl (by assumption)) rfl rfl rfl ?_
    refine WL_is (X_assign rfl rfl) rfl rfl rfl ?_
    (repeat (first | refine WL_nil ?_ | refine Then_normal ?_ | refine W_ret ?_ | refine Then_ret ?_))
    refine Body_end rfl rfl rfl (SubR.none _) ?_
    rfl
  | false =>
   by_cases hs2 : ((mkB s).size : Int) > 200
   · refine WL_is (X_move rfl rfl) rfl rfl rfl ?_
     refine WL_is (X_move rfl rfl) rfl rfl rfl ?_
     refine WL_is (X_len_str rfl rfl rfl) rfl rfl rfl ?_
     refine WL_is (X_gtr_t rfl rfl rfl (by omega)) rfl rfl rfl ?_
     refine WL_is (X_pick_f rfl rfl rfl) rfl rfl rfl ?_
     refine WL_is (X_move rfl rfl) rfl rfl rfl ?_
     refine WL_off rfl rfl rfl ?_
     refine WL_off rfl rfl rfl ?_
     refine WL_off rfl rfl rfl ?_
     refine WL_off rfl rfl rfl ?_
     refine WL_is (X_pick_t rfl rfl rfl) rfl rfl rfl ?_
     (repeat (first | refine WL_nil ?_ | refine Then_normal ?_ | refine W_seq ?_ | refine W_true rfl ?_))
     skip
     refine W_region rfl ?_
     refine WL_is (X_callv rfl rfl rfl Try.func8 rfl (by assumption)) rfl rfl rfl ?_
     refine WL_is (X_assign rfl rfl) rfl rfl rfl ?_
     (repeat (first | refine WL_nil ?_ | refine Then_normal ?_ | refine W_ret ?_ | refine Then_ret ?_))
     refine Body_end rfl rfl rfl (SubR.none _) ?_
     rfl
   · by_cases hs3 : ((mkB x.nm).size : Int) > 200
     · refine WL_is (X_move rfl rfl) rfl rfl rfl ?_
       refine WL_is (X_move rfl rfl) rfl rfl rfl ?_
       refine WL_is (X_len_str rfl rfl rfl) rfl rfl rfl ?_
       refine WL_is (X_gtr_f rfl rfl rfl (by omega)) rfl rfl rfl ?_
       refine WL_is (X_pick_f rfl rfl rfl) rfl rfl rfl ?_
       refine WL_is (X_move rfl rfl) rfl rfl rfl ?_
       refine WL_is (X_fieldAddr rfl rfl rfl (by simp only [Nat.zero_add] <;> rfl)) rfl rfl rfl ?_
       refine WL_is (X_load1 rfl rfl (by exact idx0) rfl rfl) rfl rfl rfl ?_
       refine WL_is (X_len_str rfl rfl rfl) rfl rfl rfl ?_
       refine WL_is (X_gtr_t rfl rfl rfl (by omega)) rfl rfl rfl ?_
       refine WL_is (X_pick_f rfl rfl rfl) rfl rfl rfl ?_
       (repeat (first | refine WL_nil ?_ | refine Then_normal ?_ | refine W_seq ?_ | refine W_true rfl ?_))
       skip
       refine W_region rfl ?_
       refine WL_is (X_callv rfl rfl rfl Try.func8 rfl (by assumption)) rfl rfl rfl ?_
       refine WL_is (X_assign rfl rfl) rfl rfl rfl ?_
       (repeat (first | refine WL_nil ?_ | refine Then_normal ?_ | refine W_ret ?_ | refine Then_ret ?_))
       refine Body_end rfl rfl rfl (SubR.none _) ?_
       rfl
     · skip
       have hsm := hsm rfl
       have hbig := small_big hsm
       have hnm := small_nms hsm
       have hsl : s.length ≤ 1000000 := by omega
       have hxl : x.nm.length ≤ 1000000 := by omega
       replace hv := hv.mono L1
       have hco := copy_fn H1 _ d hv hbig
       unfold drV at hco
       refine WL_is (X_move rfl rfl) rfl rfl rfl ?_
       refine WL_is (X_move rfl rfl) rfl rfl rfl ?_
       refine WL_is (X_len_str rfl rfl rfl) rfl rfl rfl ?_
       refine WL_is (X_gtr_f rfl rfl rfl (by omega)) rfl rfl rfl ?_
       refine WL_is (X_pick_f rfl rfl rfl) rfl rfl rfl ?_
       refine WL_is (X_move rfl rfl) rfl rfl rfl ?_
       refine WL_is (X_fieldAddr rfl rfl rfl (by simp only [Nat.zero_add] <;> rfl)) rfl rfl rfl ?_
       refine WL_is (X_load1 rfl rfl (by exact idx0) rfl rfl) rfl rfl rfl ?_
       refine WL_is (X_len_str rfl rfl rfl) rfl rfl rfl ?_
       refine WL_is (X_gtr_f rfl rfl rfl (by omega)) rfl rfl rfl ?_
       refine WL_is (X_pick_f rfl rfl rfl) rfl rfl rfl ?_
       (repeat (first | refine WL_nil ?_ | refine Then_normal ?_ | refine W_seq ?_ | refine W_skip ?_ | refine W_false rfl ?_))
       skip
       refine W_region rfl ?_
       refine WL_is (X_loadA rfl rfl (by exact idx1) rfl rfl rfl) rfl rfl rfl ?_
       refine WL_call rfl rfl rfl Try.func9 rfl rfl rfl rfl hco ?_
       rintro _ _ H2 L2 ⟨how, rfl⟩
       simp only [List.nil_append]
       replace hv := hv.mono L2
       have how0 := how
       obtain ⟨y0, y1, y2, y3, rfl, i0, i1, i2, i3⟩ := how0
       obtain ⟨_, _, rfl⟩ := i0.shape
       obtain ⟨_, _, rfl⟩ := i1.shape
       obtain ⟨_, _, rfl⟩ := i2.shape
       obtain ⟨_, _, rfl⟩ := i3.shape
       have hm1 := maxR_putR how.ten x
       have hm2 := maxR_takeR d s
       obtain ⟨dp, ep, hp⟩ : ∃ a b, putR d x = (a, b) := ⟨_, _, rfl⟩
       obtain ⟨dt, et, ht⟩ : ∃ a b, takeR d s = (a, b) := ⟨_, _, rfl⟩
       have hm1 : maxR dp ≤ 1000000 := by rw [hp] at hm1; have := hsm.1; dsimp only at hm1; omega
       have hm2 : maxR dt ≤ 1000000 := by rw [ht] at hm2; have := hsm.1; dsimp only at hm2; omega
       have cpu := put_fn H2 _ d x how hbig hnm hxl
       rw [hp] at cpu
       unfold sloV drV at cpu
       unfold drV
       (refine WL_alloc rfl rfl rfl rfl rfl rfl ?_; intro b_)
       refine WL_store rfl rfl rfl (by exact idx0) rfl rfl rfl rfl rfl rfl rfl rfl rfl ?_
       (repeat (first | refine WL_nil ?_ | refine Then_normal ?_ | refine W_seq ?_))
       skip
       refine W_region rfl ?_
       refine WL_is (X_loadA rfl rfl (by exact idx0) rfl rfl rfl) rfl rfl rfl ?_
       refine WL_is (X_loadA rfl rfl (by exact idx1) rfl rfl rfl) rfl rfl rfl ?_
       refine WL_call rfl rfl rfl Try.func22 rfl rfl rfl rfl cpu ?_
       rintro _ _ H3 LH3 ⟨⟨wH3, rfl, hdp⟩, rfl⟩
       simp only [List.nil_append]
       have hdp0 := hdp
       obtain ⟨y0, y1, y2, y3, rfl, i0, i1, i2, i3⟩ := hdp0
       obtain ⟨_, _, rfl⟩ := i0.shape
       obtain ⟨_, _, rfl⟩ := i1.shape
       obtain ⟨_, _, rfl⟩ := i2.shape
       obtain ⟨_, _, rfl⟩ := i3.shape
       unfold drV
       refine WL_is (X_move rfl rfl) rfl rfl rfl ?_
       refine WL_is (X_extract rfl rfl rfl) rfl rfl rfl ?_
       refine WL_is (X_extract rfl rfl rfl) rfl rfl rfl ?_
       (refine WL_alloc rfl rfl rfl rfl rfl rfl ?_; intro b_)
       refine WL_store rfl rfl rfl (by exact idx0) rfl rfl rfl rfl rfl rfl rfl rfl rfl ?_
       refine WL_is (X_assign rfl rfl) rfl rfl rfl ?_
       (repeat (first | refine WL_nil ?_ | refine Then_normal ?_ | refine W_seq ?_))
       replace hv := hv.mono LH3
       replace how := how.mono LH3
       have cta := take_fn H3 _ d s how hbig hnm
       rw [ht] at cta
       unfold drV at cta
       skip
       refine W_region rfl ?_
       refine WL_is (X_loadA rfl rfl (by exact idx1) rfl rfl rfl) rfl rfl rfl ?_
       refine WL_is (X_move rfl rfl) rfl rfl rfl ?_
       refine WL_call rfl rfl rfl Try.func23 rfl rfl rfl rfl cta ?_
       rintro _ _ H4 LH4 ⟨⟨wH4, rfl, hdt⟩, rfl⟩
       simp only [List.nil_append]
       have hdt0 := hdt
       obtain ⟨y0, y1, y2, y3, rfl, i0, i1, i2, i3⟩ := hdt0
       obtain ⟨_, _, rfl⟩ := i0.shape
       obtain ⟨_, _, rfl⟩ := i1.shape
       obtain ⟨_, _, rfl⟩ := i2.shape
       obtain ⟨_, _, rfl⟩ := i3.shape
       unfold drV
       refine WL_is (X_move rfl rfl) rfl rfl rfl ?_
       refine WL_is (X_extract rfl rfl rfl) rfl rfl rfl ?_
       refine WL_is (X_extract rfl rfl rfl) rfl rfl rfl ?_
       (refine WL_alloc rfl rfl rfl rfl rfl rfl ?_; intro b_)
       refine WL_store rfl rfl rfl (by exact idx0) rfl rfl rfl rfl rfl rfl rfl rfl rfl ?_
       refine WL_is (X_assign rfl rfl) rfl rfl rfl ?_
       (repeat (first | refine WL_nil ?_ | refine Then_normal ?_ | refine W_seq ?_))
       dsimp only at hdp hdt
       replace hv := hv.mono LH4
       replace how := how.mono LH4
       replace hdp := hdp.mono LH4
       have csa := same_fn H4 _ _ d how hv hbig
       have cmy := may_ref H4 _ d hv hbig hnm
       have go4 := hal H4
       unfold drV at csa cmy
       skip
       refine W_region rfl ?_
       refine WL_is (X_loadA rfl rfl (by exact idx2) rfl rfl rfl) rfl rfl rfl ?_
       refine WL_is (X_loadA rfl rfl (by exact idx4) rfl rfl rfl) rfl rfl rfl ?_
       refine WL_is (X_callv rfl rfl rfl Try.func16 rfl (by assumption)) rfl rfl rfl ?_
       refine WL_is (X_not rfl rfl) rfl rfl rfl ?_
       (repeat (first | refine WL_nil ?_ | refine Then_normal ?_ | refine W_seq ?_ | refine W_skip ?_ | refine W_false rfl ?_))
       cases hm : mayD d with
       | false =>
         rw [hm] at cmy
         have hp2 := put_bad (x := x) hm
         have ht2 := take_bad (s := s) hm
         rw [hp] at hp2; cases hp2
         rw [ht] at ht2; cases ht2
         have c1 := same_fn H4 _ _ dr0 hdp DrV.nil (by decide)
         have c2 := same_fn H4 _ _ dr0 hdt DrV.nil (by decide)
         unfold drV at c1 c2
         skip
         refine W_region rfl ?_
         refine WL_is (X_loadA rfl rfl (by exact idx4) rfl rfl rfl) rfl rfl rfl ?_
         refine WL_is (X_callv rfl rfl rfl Try.func17 rfl (by assumption)) rfl rfl rfl ?_
         refine WL_is (X_not rfl rfl) rfl rfl rfl ?_
         (repeat (first | refine WL_nil ?_ | refine Then_normal ?_ | refine W_seq ?_ | refine W_true rfl ?_))
         skip
         refine W_region rfl ?_
         refine WL_is (X_move rfl rfl) rfl rfl rfl ?_
         refine WL_is (X_eql_t rfl rfl rfl (by omega)) rfl rfl rfl ?_
         refine WL_is (X_move rfl rfl) rfl rfl rfl ?_
         refine WL_is (X_move rfl rfl) rfl rfl rfl ?_
         refine WL_is (X_eql_t rfl rfl rfl (by omega)) rfl rfl rfl ?_
         refine WL_is (X_pick_t rfl rfl rfl) rfl rfl rfl ?_
         refine WL_is (X_move rfl rfl) rfl rfl rfl ?_
         refine WL_is (X_loadA rfl rfl (by exact idx1) rfl rfl rfl) rfl rfl rfl ?_
         refine WL_is (X_build rfl rfl rfl) rfl rfl rfl ?_
         refine WL_is (X_callv rfl rfl rfl Try.func16 rfl (by assumption)) rfl rfl rfl ?_
         refine WL_is (X_pick_t rfl rfl rfl) rfl rfl rfl ?_
         refine WL_is (X_move rfl rfl) rfl rfl rfl ?_
         refine WL_is (X_loadA rfl rfl (by exact idx0) rfl rfl rfl) rfl rfl rfl ?_
         refine WL_is (X_build rfl rfl rfl) rfl rfl rfl ?_
         refine WL_is (X_callv rfl rfl rfl Try.func16 rfl (by assumption)) rfl rfl rfl ?_
         refine WL_is (X_pick_t rfl rfl rfl) rfl rfl rfl ?_
         refine WL_is (X_move rfl rfl) rfl rfl rfl ?_
         refine WL_is (X_callv rfl rfl rfl Try.func8 rfl (by assumption)) rfl rfl rfl ?_
         refine WL_is (X_pick_t rfl rfl rfl) rfl rfl rfl ?_
         refine WL_is (X_assign rfl rfl) rfl rfl rfl ?_
         (repeat (first | refine WL_nil ?_ | refine Then_normal ?_ | refine W_ret ?_ | refine Then_ret ?_))
         refine Body_end rfl rfl rfl (SubR.none _) ?_
         rfl
       | true =>
         rw [hm] at cmy
         have cpu2 := put_ref H4 _ d x hv hm hxl
         rw [hp] at cpu2
         unfold sloV drV at cpu2
         skip
         refine W_region rfl ?_
         refine WL_is (X_loadA rfl rfl (by exact idx4) rfl rfl rfl) rfl rfl rfl ?_
         refine WL_is (X_callv rfl rfl rfl Try.func17 rfl (by assumption)) rfl rfl rfl ?_
         refine WL_is (X_not rfl rfl) rfl rfl rfl ?_
         (repeat (first | refine WL_nil ?_ | refine Then_normal ?_ | refine W_seq ?_ | refine W_skip ?_ | refine W_false rfl ?_))
         skip
         refine W_region rfl ?_
         refine WL_is (X_loadA rfl rfl (by exact idx4) rfl rfl rfl) rfl rfl rfl ?_
         refine WL_is (X_loadA rfl rfl (by exact idx3) rfl rfl rfl) rfl rfl rfl ?_
         refine WL_call rfl rfl rfl Try.func24 rfl rfl rfl rfl cpu2 ?_
         rintro _ _ H5 LH5 ⟨⟨wH5, rfl, hdp2⟩, rfl⟩
         simp only [List.nil_append]
         have hdp20 := hdp2
         obtain ⟨y0, y1, y2, y3, rfl, i0, i1, i2, i3⟩ := hdp20
         obtain ⟨_, _, rfl⟩ := i0.shape
         obtain ⟨_, _, rfl⟩ := i1.shape
         obtain ⟨_, _, rfl⟩ := i2.shape
         obtain ⟨_, _, rfl⟩ := i3.shape
         unfold drV
         refine WL_is (X_move rfl rfl) rfl rfl rfl ?_
         refine WL_is (X_extract rfl rfl rfl) rfl rfl rfl ?_
         refine WL_is (X_extract rfl rfl rfl) rfl rfl rfl ?_
         (refine WL_alloc rfl rfl rfl rfl rfl rfl ?_; intro b_)
         refine WL_store rfl rfl rfl (by exact idx0) rfl rfl rfl rfl rfl rfl rfl rfl rfl ?_
         refine WL_is (X_assign rfl rfl) rfl rfl rfl ?_
         (repeat (first | refine WL_nil ?_ | refine Then_normal ?_ | refine W_seq ?_))
         replace hv := hv.mono LH5
         have cta2 := take_ref H5 _ d s hv hm
         rw [ht] at cta2
         unfold drV at cta2
         skip
         refine W_region rfl ?_
         refine WL_is (X_loadA rfl rfl (by exact idx5) rfl rfl rfl) rfl rfl rfl ?_
         refine WL_is (X_move rfl rfl) rfl rfl rfl ?_
         refine WL_call rfl rfl rfl Try.func25 rfl rfl rfl rfl cta2 ?_
         rintro _ _ H6 LH6 ⟨⟨wH6, rfl, hdt2⟩, rfl⟩
         simp only [List.nil_append]
         have hdt20 := hdt2
         obtain ⟨y0, y1, y2, y3, rfl, i0, i1, i2, i3⟩ := hdt20
         obtain ⟨_, _, rfl⟩ := i0.shape
         obtain ⟨_, _, rfl⟩ := i1.shape
         obtain ⟨_, _, rfl⟩ := i2.shape
         obtain ⟨_, _, rfl⟩ := i3.shape
         unfold drV
         refine WL_is (X_move rfl rfl) rfl rfl rfl ?_
         refine WL_is (X_extract rfl rfl rfl) rfl rfl rfl ?_
         refine WL_is (X_extract rfl rfl rfl) rfl rfl rfl ?_
         (refine WL_alloc rfl rfl rfl rfl rfl rfl ?_; intro b_)
         refine WL_store rfl rfl rfl (by exact idx0) rfl rfl rfl rfl rfl rfl rfl rfl rfl ?_
         refine WL_is (X_assign rfl rfl) rfl rfl rfl ?_
         (repeat (first | refine WL_nil ?_ | refine Then_normal ?_ | refine W_seq ?_))
         dsimp only at hdp2 hdt2
         have c1 := same_fn H6 _ _ dp ((hdp.mono LH5).mono LH6) (hdp2.mono LH6) hm1
         have c2 := same_fn H6 _ _ dt ((hdt.mono LH5).mono LH6) hdt2 hm2
         have go6 := hal H6
         unfold drV at c1 c2
         skip
         refine W_region rfl ?_
         refine WL_is (X_loadA rfl rfl (by exact idx3) rfl rfl rfl) rfl rfl rfl ?_
         refine WL_is (X_loadA rfl rfl (by exact idx1) rfl rfl rfl) rfl rfl rfl ?_
         refine WL_is (X_callv rfl rfl rfl Try.func16 rfl (by assumption)) rfl rfl rfl ?_
         refine WL_is (X_move rfl rfl) rfl rfl rfl ?_
         refine WL_is (X_move rfl rfl) rfl rfl rfl ?_
         refine WL_is (X_move rfl rfl) rfl rfl rfl ?_
         refine WL_is (X_eql_t rfl rfl rfl (by omega)) rfl rfl rfl ?_
         refine WL_is (X_pick_t rfl rfl rfl) rfl rfl rfl ?_
         refine WL_is (X_move rfl rfl) rfl rfl rfl ?_
         refine WL_is (X_loadA rfl rfl (by exact idx2) rfl rfl rfl) rfl rfl rfl ?_
         refine WL_is (X_loadA rfl rfl (by exact idx0) rfl rfl rfl) rfl rfl rfl ?_
         refine WL_is (X_callv rfl rfl rfl Try.func16 rfl (by assumption)) rfl rfl rfl ?_
         refine WL_is (X_pick_t rfl rfl rfl) rfl rfl rfl ?_
         refine WL_is (X_move rfl rfl) rfl rfl rfl ?_
         refine WL_is (X_move rfl rfl) rfl rfl rfl ?_
         refine WL_is (X_move rfl rfl) rfl rfl rfl ?_
         refine WL_is (X_eql_t rfl rfl rfl (by omega)) rfl rfl rfl ?_
         refine WL_is (X_pick_t rfl rfl rfl) rfl rfl rfl ?_
         refine WL_is (X_move rfl rfl) rfl rfl rfl ?_
         refine WL_is (X_callv rfl rfl rfl Try.func8 rfl (by assumption)) rfl rfl rfl ?_
         refine WL_is (X_pick_t rfl rfl rfl) rfl rfl rfl ?_
         refine WL_is (X_assign rfl rfl) rfl rfl rfl ?_
         (repeat (first | refine WL_nil ?_ | refine Then_normal ?_ | refine W_ret ?_))
         refine Body_end rfl rfl rfl (SubR.none _) ?_
         rfl
end Go.Proofs.Ytgpanbmjmpondaa
