/- Values under keys: the laws that nothing but the order of settings is asked in. -/
import Derived.Test.YtakdjabamjgcfaaXattrK
namespace Go.Proofs.Ytakdjabamjgcfaa
set_option maxRecDepth 4000
open Go Go.Par PH
theorem short_tame {l : Xs} (h : longX l = false) : tameX l ∧ l.length ≤ 40 := by
  obtain ⟨h1, h2⟩ := long_short h
  exact ⟨⟨by omega, fun x hx => by have := (h2 x hx).1; omega⟩, h1⟩
theorem setL_len (l : Xs) (k z : ByteArray) (how : Int) : (setL l k z how).length ≤ 4 := by
  unfold setL
  split
  · next h => exact (mayX_iff.1 (may_ins h)).1
  · simp
theorem remL_len (l : Xs) (k : ByteArray) (h : l.length ≤ 40) : (remL l k).length ≤ 40 := by
  unfold remL
  have := delX_le l k
  split
  · omega
  · simp
attribute [local irreducible] W WL Does Exec Body Then inBlk RG WR row obj pblk
set_option maxHeartbeats 1000000 in
theorem sets_fn (h : PH) (l : Xs) (v : Value) (k z : ByteArray) (how : Int) (hv : Sl encX 2 h v l) : Does Try.prog 3 [v, .string k, .string z, .int .u8 how] [] h (Ret fun r _ _ => r = .bool true) := by
  have hlf := long_fn h l v hv
  obtain ⟨va, vc, rfl⟩ := hv.shape
  refine Does_of_W Try.func3 rfl (n := 68) rfl rfl (by simp only [argE, Nat.reduceAdd] <;> rfl) ?_
  cases hlg : longX l with
  | true =>
    rw [hlg] at hlf
    have hal := aliveX_fn h
    (repeat (first | refine W_seq ?_))
    skip
    refine W_region rfl ?_
    refine WL_is (X_assign rfl rfl) rfl rfl rfl ?_
    (repeat (first | refine WL_nil ?_ | refine Then_normal ?_ | refine W_seq ?_))
    skip
    refine W_region rfl ?_
    refine WL_is (X_move rfl rfl) rfl rfl rfl ?_
    refine WL_is (X_callv rfl rfl rfl Try.func7 rfl (by assumption)) rfl rfl rfl ?_
    refine WL_is (X_move rfl rfl) rfl rfl rfl ?_
    refine WL_off rfl rfl rfl ?_
    refine WL_off rfl rfl rfl ?_
    refine WL_off rfl rfl rfl ?_
    refine WL_is (X_pick_t rfl rfl rfl) rfl rfl rfl ?_
    refine WL_is (X_move rfl rfl) rfl rfl rfl ?_
    refine WL_off rfl rfl rfl ?_
    refine WL_off rfl rfl rfl ?_
    refine WL_off rfl rfl rfl ?_
    refine WL_is (X_pick_t rfl rfl rfl) rfl rfl rfl ?_
    (repeat (first | refine WL_nil ?_ | refine Then_normal ?_ | refine W_seq ?_ | refine W_true rfl ?_))
    skip
    refine W_region rfl ?_
    refine WL_is (X_callv rfl rfl rfl Try.func8 rfl (by assumption)) rfl rfl rfl ?_
    refine WL_is (X_assign rfl rfl) rfl rfl rfl ?_
    (repeat (first | refine WL_nil ?_ | refine Then_normal ?_ | refine W_ret ?_ | refine Then_ret ?_))
    refine Body_end rfl rfl rfl (SubR.none _) ?_
    rfl
  | false =>
    rw [hlg] at hlf
    obtain ⟨ht, hl⟩ := short_tame hlg
    by_cases hk : (k.size : Int) > 200
    · have hal := aliveX_fn h
      (repeat (first | refine W_seq ?_))
      skip
      refine W_region rfl ?_
      refine WL_is (X_assign rfl rfl) rfl rfl rfl ?_
      (repeat (first | refine WL_nil ?_ | refine Then_normal ?_ | refine W_seq ?_))
      skip
      refine W_region rfl ?_
      refine WL_is (X_move rfl rfl) rfl rfl rfl ?_
      refine WL_is (X_callv rfl rfl rfl Try.func7 rfl (by assumption)) rfl rfl rfl ?_
      refine WL_is (X_move rfl rfl) rfl rfl rfl ?_
      refine WL_is (X_move rfl rfl) rfl rfl rfl ?_
      refine WL_is (X_len_str rfl rfl rfl) rfl rfl rfl ?_
      refine WL_is (X_gtr_t rfl rfl rfl (by omega)) rfl rfl rfl ?_
      refine WL_is (X_pick_f rfl rfl rfl) rfl rfl rfl ?_
      refine WL_is (X_move rfl rfl) rfl rfl rfl ?_
      refine WL_off rfl rfl rfl ?_
      refine WL_off rfl rfl rfl ?_
      refine WL_off rfl rfl rfl ?_
      refine WL_is (X_pick_t rfl rfl rfl) rfl rfl rfl ?_
      (repeat (first | refine WL_nil ?_ | refine Then_normal ?_ | refine W_seq ?_ | refine W_true rfl ?_))
      skip
      refine W_region rfl ?_
      refine WL_is (X_callv rfl rfl rfl Try.func8 rfl (by assumption)) rfl rfl rfl ?_
      refine WL_is (X_assign rfl rfl) rfl rfl rfl ?_
      (repeat (first | refine WL_nil ?_ | refine Then_normal ?_ | refine W_ret ?_ | refine Then_ret ?_))
      refine Body_end rfl rfl rfl (SubR.none _) ?_
      rfl
    · by_cases hz : (z.size : Int) > 200
      · have hal := aliveX_fn h
        (repeat (first | refine W_seq ?_))
        skip
        refine W_region rfl ?_
        refine WL_is (X_assign rfl rfl) rfl rfl rfl ?_
        (repeat (first | refine WL_nil ?_ | refine Then_normal ?_ | refine W_seq ?_))
        skip
        refine W_region rfl ?_
        refine WL_is (X_move rfl rfl) rfl rfl rfl ?_
        refine WL_is (X_callv rfl rfl rfl Try.func7 rfl (by assumption)) rfl rfl rfl ?_
        refine WL_is (X_move rfl rfl) rfl rfl rfl ?_
        refine WL_is (X_move rfl rfl) rfl rfl rfl ?_
        refine WL_is (X_len_str rfl rfl rfl) rfl rfl rfl ?_
        refine WL_is (X_gtr_f rfl rfl rfl (by omega)) rfl rfl rfl ?_
        refine WL_is (X_pick_f rfl rfl rfl) rfl rfl rfl ?_
        refine WL_is (X_move rfl rfl) rfl rfl rfl ?_
        refine WL_is (X_move rfl rfl) rfl rfl rfl ?_
        refine WL_is (X_len_str rfl rfl rfl) rfl rfl rfl ?_
        refine WL_is (X_gtr_t rfl rfl rfl (by omega)) rfl rfl rfl ?_
        refine WL_is (X_pick_f rfl rfl rfl) rfl rfl rfl ?_
        (repeat (first | refine WL_nil ?_ | refine Then_normal ?_ | refine W_seq ?_ | refine W_true rfl ?_))
        skip
        refine W_region rfl ?_
        refine WL_is (X_callv rfl rfl rfl Try.func8 rfl (by assumption)) rfl rfl rfl ?_
        refine WL_is (X_assign rfl rfl) rfl rfl rfl ?_
        (repeat (first | refine WL_nil ?_ | refine Then_normal ?_ | refine W_ret ?_ | refine Then_ret ?_))
        refine Body_end rfl rfl rfl (SubR.none _) ?_
        rfl
      · (repeat (first | refine W_seq ?_))
        skip
        refine W_region rfl ?_
        refine WL_is (X_assign rfl rfl) rfl rfl rfl ?_
        (repeat (first | refine WL_nil ?_ | refine Then_normal ?_ | refine W_seq ?_))
        skip
        refine W_region rfl ?_
        refine WL_is (X_move rfl rfl) rfl rfl rfl ?_
        refine WL_is (X_callv rfl rfl rfl Try.func7 rfl (by assumption)) rfl rfl rfl ?_
        refine WL_is (X_move rfl rfl) rfl rfl rfl ?_
        refine WL_is (X_move rfl rfl) rfl rfl rfl ?_
        refine WL_is (X_len_str rfl rfl rfl) rfl rfl rfl ?_
        refine WL_is (X_gtr_f rfl rfl rfl (by omega)) rfl rfl rfl ?_
        refine WL_is (X_pick_f rfl rfl rfl) rfl rfl rfl ?_
        refine WL_is (X_move rfl rfl) rfl rfl rfl ?_
        refine WL_is (X_move rfl rfl) rfl rfl rfl ?_
        refine WL_is (X_len_str rfl rfl rfl) rfl rfl rfl ?_
        refine WL_is (X_gtr_f rfl rfl rfl (by omega)) rfl rfl rfl ?_
        refine WL_is (X_pick_f rfl rfl rfl) rfl rfl rfl ?_
        (repeat (first | refine WL_nil ?_ | refine Then_normal ?_ | refine W_seq ?_ | refine W_skip ?_ | refine W_false rfl ?_))
        skip
        refine W_region rfl ?_
        refine WL_is (X_move rfl rfl) rfl rfl rfl ?_
        refine WL_append_nil (enc := encX) (L' := l) rfl rfl rfl elemX rfl (Src.sl hv) (flatX l) (by omega) (by omega) rfl rfl rfl ?_
        intro w
        refine WL_updE (UpdE.row (enc := encX) 0 rfl (lenX _)) ?_
        rintro _ H1 M1 ⟨rfl, ho⟩
        obtain ⟨oa, oc, rfl⟩ := ho.shape
        simp only [List.eraseIdx_cons_zero]
        replace hv := hv.mono M1
        refine WL_is (X_assign rfl rfl) rfl rfl rfl ?_
        (repeat (first | refine WL_nil ?_ | refine Then_normal ?_ | refine W_seq ?_))
        skip
        refine W_region rfl ?_
        refine WL_is (X_move rfl rfl) rfl rfl rfl ?_
        refine WL_is (X_move rfl rfl) rfl rfl rfl ?_
        refine WL_is (X_move rfl rfl) rfl rfl rfl ?_
        refine WL_is (X_move rfl rfl) rfl rfl rfl ?_
        refine WL_call rfl rfl rfl Try.func9 rfl rfl rfl rfl (set_fn H1 l _ k z how ho ht) ?_
        rintro _ _ H2 M2 ⟨w1, rfl, s1, rfl⟩
        simp only [List.nil_append]
        replace hv := hv.mono M2
        refine WL_is (X_move rfl rfl) rfl rfl rfl ?_
        refine WL_is (X_extract rfl rfl rfl) rfl rfl rfl ?_
        refine WL_is (X_extract rfl rfl rfl) rfl rfl rfl ?_
        refine WL_is (X_assign rfl rfl) rfl rfl rfl ?_
        refine WL_is (X_assign rfl rfl) rfl rfl rfl ?_
        (repeat (first | refine WL_nil ?_ | refine Then_normal ?_ | refine W_seq ?_))
        skip
        refine W_region rfl ?_
        refine WL_is (X_move rfl rfl) rfl rfl rfl ?_
        refine WL_is (X_move rfl rfl) rfl rfl rfl ?_
        refine WL_is (X_move rfl rfl) rfl rfl rfl ?_
        refine WL_is (X_move rfl rfl) rfl rfl rfl ?_
        refine WL_call rfl rfl rfl Try.func10 rfl rfl rfl rfl (set_ref H2 l _ k z how hv ht (by omega)) ?_
        rintro _ _ H3 M3 ⟨w2, rfl, s2, rfl⟩
        simp only [List.nil_append]
        replace s1 := s1.mono M3
        replace hv := hv.mono M3
        replace ho := (ho.mono M2).mono M3
        have h1 := sameX_ref H3 _ _ w1 w2 s1 s2 (by have := setL_len l k z how; omega) (by have := setL_len l k z how; omega)
        have h2 := sameX_ref H3 _ _ _ _ ho hv (by omega) (by omega)
        rw [decide_eq_true rfl] at h1 h2
        have h3 := key_fn H3 k
        have h4 := keyE_ref H3 k (by omega)
        have h5 := aliveX_fn H3
        have ho' := ho.shape
        refine WL_is (X_move rfl rfl) rfl rfl rfl ?_
        refine WL_is (X_extract rfl rfl rfl) rfl rfl rfl ?_
        refine WL_is (X_extract rfl rfl rfl) rfl rfl rfl ?_
        refine WL_is (X_assign rfl rfl) rfl rfl rfl ?_
        refine WL_is (X_assign rfl rfl) rfl rfl rfl ?_
        (repeat (first | refine WL_nil ?_ | refine Then_normal ?_ | refine W_seq ?_))
        skip
        refine W_region rfl ?_
        refine WL_is (X_move rfl rfl) rfl rfl rfl ?_
        refine WL_is (X_move rfl rfl) rfl rfl rfl ?_
        refine WL_is (X_callv rfl rfl rfl Try.func11 rfl (by assumption)) rfl rfl rfl ?_
        refine WL_is (X_move rfl rfl) rfl rfl rfl ?_
        refine WL_is (X_move rfl rfl) rfl rfl rfl ?_
        refine WL_is (X_move rfl rfl) rfl rfl rfl ?_
        refine WL_is (X_eql_t rfl rfl rfl (by omega)) rfl rfl rfl ?_
        refine WL_is (X_pick_t rfl rfl rfl) rfl rfl rfl ?_
        refine WL_is (X_move rfl rfl) rfl rfl rfl ?_
        refine WL_is (X_move rfl rfl) rfl rfl rfl ?_
        refine WL_is (X_callv rfl rfl rfl Try.func12 rfl (by assumption)) rfl rfl rfl ?_
        refine WL_is (X_move rfl rfl) rfl rfl rfl ?_
        refine WL_is (X_callv rfl rfl rfl Try.func13 rfl (by assumption)) rfl rfl rfl ?_
        refine WL_is (X_eql_t rfl rfl rfl (by omega)) rfl rfl rfl ?_
        refine WL_is (X_pick_t rfl rfl rfl) rfl rfl rfl ?_
        refine WL_is (X_move rfl rfl) rfl rfl rfl ?_
        refine WL_is (X_move rfl rfl) rfl rfl rfl ?_
        refine WL_is (X_move rfl rfl) rfl rfl rfl ?_
        refine WL_is (X_callv rfl rfl rfl Try.func11 rfl (by assumption)) rfl rfl rfl ?_
        refine WL_is (X_pick_t rfl rfl rfl) rfl rfl rfl ?_
        refine WL_is (X_move rfl rfl) rfl rfl rfl ?_
        refine WL_is (X_callv rfl rfl rfl Try.func8 rfl (by assumption)) rfl rfl rfl ?_
        refine WL_is (X_pick_t rfl rfl rfl) rfl rfl rfl ?_
        refine WL_is (X_assign rfl rfl) rfl rfl rfl ?_
        (repeat (first | refine WL_nil ?_ | refine Then_normal ?_ | refine W_ret ?_))
        refine Body_end rfl rfl rfl (SubR.none _) ?_
        rfl
set_option maxHeartbeats 2000000 in
theorem order_fn (h : PH) (l : Xs) (v : Value) (a b y z : ByteArray) (hv : Sl encX 2 h v l) : Does Try.prog 6 [v, .string a, .string b, .string y, .string z] [] h (Ret fun r _ _ => r = .bool true) := by
  have hlf := long_fn h l v hv
  obtain ⟨va, vc, rfl⟩ := hv.shape
  refine Does_of_W Try.func6 rfl (n := 87) rfl rfl (by simp only [argE, Nat.reduceAdd] <;> rfl) ?_
  cases hlg : longX l with
  | true =>
    rw [hlg] at hlf
    have hal := aliveX_fn h
    (repeat (first | refine W_seq ?_))
    skip
    refine W_region rfl ?_
    refine WL_is (X_assign rfl rfl) rfl rfl rfl ?_
    (repeat (first | refine WL_nil ?_ | refine Then_normal ?_ | refine W_seq ?_))
    skip
    refine W_region rfl ?_
    refine WL_is (X_move rfl rfl) rfl rfl rfl ?_
    refine WL_is (X_callv rfl rfl rfl Try.func7 rfl (by assumption)) rfl rfl rfl ?_
    refine WL_is (X_move rfl rfl) rfl rfl rfl ?_
    refine WL_off rfl rfl rfl ?_
    refine WL_off rfl rfl rfl ?_
    refine WL_off rfl rfl rfl ?_
    refine WL_off rfl rfl rfl ?_
    refine WL_off rfl rfl rfl ?_
    refine WL_off rfl rfl rfl ?_
    refine WL_is (X_pick_t rfl rfl rfl) rfl rfl rfl ?_
    refine WL_is (X_move rfl rfl) rfl rfl rfl ?_
    refine WL_off rfl rfl rfl ?_
    refine WL_off rfl rfl rfl ?_
    refine WL_off rfl rfl rfl ?_
    refine WL_off rfl rfl rfl ?_
    refine WL_off rfl rfl rfl ?_
    refine WL_off rfl rfl rfl ?_
    refine WL_is (X_pick_t rfl rfl rfl) rfl rfl rfl ?_
    refine WL_is (X_move rfl rfl) rfl rfl rfl ?_
    refine WL_off rfl rfl rfl ?_
    refine WL_off rfl rfl rfl ?_
    refine WL_off rfl rfl rfl ?_
    refine WL_is (X_pick_t rfl rfl rfl) rfl rfl rfl ?_
    (repeat (first | refine WL_nil ?_ | refine Then_normal ?_ | refine W_seq ?_ | refine W_true rfl ?_))
    skip
    refine W_region rfl ?_
    refine WL_is (X_callv rfl rfl rfl Try.func8 rfl (by assumption)) rfl rfl rfl ?_
    refine WL_is (X_assign rfl rfl) rfl rfl rfl ?_
    (repeat (first | refine WL_nil ?_ | refine Then_normal ?_ | refine W_ret ?_ | refine Then_ret ?_))
    refine Body_end rfl rfl rfl (SubR.none _) ?_
    rfl
  | false =>
    rw [hlg] at hlf
    obtain ⟨ht, hl⟩ := short_tame hlg
    by_cases hk : IntKind.i64.wrap ((a.size : Int) + b.size) > 200
    · have hal := aliveX_fn h
      (repeat (first | refine W_seq ?_))
      skip
      refine W_region rfl ?_
      refine WL_is (X_assign rfl rfl) rfl rfl rfl ?_
      (repeat (first | refine WL_nil ?_ | refine Then_normal ?_ | refine W_seq ?_))
      skip
      refine W_region rfl ?_
      refine WL_is (X_move rfl rfl) rfl rfl rfl ?_
      refine WL_is (X_callv rfl rfl rfl Try.func7 rfl (by assumption)) rfl rfl rfl ?_
      refine WL_is (X_move rfl rfl) rfl rfl rfl ?_
      refine WL_is (X_move rfl rfl) rfl rfl rfl ?_
      refine WL_is (X_len_str rfl rfl rfl) rfl rfl rfl ?_
      refine WL_is (X_move rfl rfl) rfl rfl rfl ?_
      refine WL_is (X_len_str rfl rfl rfl) rfl rfl rfl ?_
      refine WL_is (X_add rfl rfl rfl) rfl rfl rfl ?_
      refine WL_is (X_gtr_t rfl rfl rfl (by omega)) rfl rfl rfl ?_
      refine WL_is (X_pick_f rfl rfl rfl) rfl rfl rfl ?_
      refine WL_is (X_move rfl rfl) rfl rfl rfl ?_
      refine WL_off rfl rfl rfl ?_
      refine WL_off rfl rfl rfl ?_
      refine WL_off rfl rfl rfl ?_
      refine WL_off rfl rfl rfl ?_
      refine WL_off rfl rfl rfl ?_
      refine WL_off rfl rfl rfl ?_
      refine WL_is (X_pick_t rfl rfl rfl) rfl rfl rfl ?_
      refine WL_is (X_move rfl rfl) rfl rfl rfl ?_
      refine WL_off rfl rfl rfl ?_
      refine WL_off rfl rfl rfl ?_
      refine WL_off rfl rfl rfl ?_
      refine WL_is (X_pick_t rfl rfl rfl) rfl rfl rfl ?_
      (repeat (first | refine WL_nil ?_ | refine Then_normal ?_ | refine W_seq ?_ | refine W_true rfl ?_))
      skip
      refine W_region rfl ?_
      refine WL_is (X_callv rfl rfl rfl Try.func8 rfl (by assumption)) rfl rfl rfl ?_
      refine WL_is (X_assign rfl rfl) rfl rfl rfl ?_
      (repeat (first | refine WL_nil ?_ | refine Then_normal ?_ | refine W_ret ?_ | refine Then_ret ?_))
      refine Body_end rfl rfl rfl (SubR.none _) ?_
      rfl
    · by_cases hz : IntKind.i64.wrap ((y.size : Int) + z.size) > 200
      · have hal := aliveX_fn h
        (repeat (first | refine W_seq ?_))
        skip
        refine W_region rfl ?_
        refine WL_is (X_assign rfl rfl) rfl rfl rfl ?_
        (repeat (first | refine WL_nil ?_ | refine Then_normal ?_ | refine W_seq ?_))
        skip
        refine W_region rfl ?_
        refine WL_is (X_move rfl rfl) rfl rfl rfl ?_
        refine WL_is (X_callv rfl rfl rfl Try.func7 rfl (by assumption)) rfl rfl rfl ?_
        refine WL_is (X_move rfl rfl) rfl rfl rfl ?_
        refine WL_is (X_move rfl rfl) rfl rfl rfl ?_
        refine WL_is (X_len_str rfl rfl rfl) rfl rfl rfl ?_
        refine WL_is (X_move rfl rfl) rfl rfl rfl ?_
        refine WL_is (X_len_str rfl rfl rfl) rfl rfl rfl ?_
        refine WL_is (X_add rfl rfl rfl) rfl rfl rfl ?_
        refine WL_is (X_gtr_f rfl rfl rfl (by omega)) rfl rfl rfl ?_
        refine WL_is (X_pick_f rfl rfl rfl) rfl rfl rfl ?_
        refine WL_is (X_move rfl rfl) rfl rfl rfl ?_
        refine WL_is (X_move rfl rfl) rfl rfl rfl ?_
        refine WL_is (X_len_str rfl rfl rfl) rfl rfl rfl ?_
        refine WL_is (X_move rfl rfl) rfl rfl rfl ?_
        refine WL_is (X_len_str rfl rfl rfl) rfl rfl rfl ?_
        refine WL_is (X_add rfl rfl rfl) rfl rfl rfl ?_
        refine WL_is (X_gtr_t rfl rfl rfl (by omega)) rfl rfl rfl ?_
        refine WL_is (X_pick_f rfl rfl rfl) rfl rfl rfl ?_
        refine WL_is (X_move rfl rfl) rfl rfl rfl ?_
        refine WL_off rfl rfl rfl ?_
        refine WL_off rfl rfl rfl ?_
        refine WL_off rfl rfl rfl ?_
        refine WL_is (X_pick_t rfl rfl rfl) rfl rfl rfl ?_
        (repeat (first | refine WL_nil ?_ | refine Then_normal ?_ | refine W_seq ?_ | refine W_true rfl ?_))
        skip
        refine W_region rfl ?_
        refine WL_is (X_callv rfl rfl rfl Try.func8 rfl (by assumption)) rfl rfl rfl ?_
        refine WL_is (X_assign rfl rfl) rfl rfl rfl ?_
        (repeat (first | refine WL_nil ?_ | refine Then_normal ?_ | refine W_ret ?_ | refine Then_ret ?_))
        refine Body_end rfl rfl rfl (SubR.none _) ?_
        rfl
      · by_cases hab : a = b
        · have hal := aliveX_fn h
          have hb' : (a == b) = true := by rw [beqB_iff, decide_eq_true hab]
          (repeat (first | refine W_seq ?_))
          skip
          refine W_region rfl ?_
          refine WL_is (X_assign rfl rfl) rfl rfl rfl ?_
          (repeat (first | refine WL_nil ?_ | refine Then_normal ?_ | refine W_seq ?_))
          skip
          refine W_region rfl ?_
          refine WL_is (X_move rfl rfl) rfl rfl rfl ?_
          refine WL_is (X_callv rfl rfl rfl Try.func7 rfl (by assumption)) rfl rfl rfl ?_
          refine WL_is (X_move rfl rfl) rfl rfl rfl ?_
          refine WL_is (X_move rfl rfl) rfl rfl rfl ?_
          refine WL_is (X_len_str rfl rfl rfl) rfl rfl rfl ?_
          refine WL_is (X_move rfl rfl) rfl rfl rfl ?_
          refine WL_is (X_len_str rfl rfl rfl) rfl rfl rfl ?_
          refine WL_is (X_add rfl rfl rfl) rfl rfl rfl ?_
          refine WL_is (X_gtr_f rfl rfl rfl (by omega)) rfl rfl rfl ?_
          refine WL_is (X_pick_f rfl rfl rfl) rfl rfl rfl ?_
          refine WL_is (X_move rfl rfl) rfl rfl rfl ?_
          refine WL_is (X_move rfl rfl) rfl rfl rfl ?_
          refine WL_is (X_len_str rfl rfl rfl) rfl rfl rfl ?_
          refine WL_is (X_move rfl rfl) rfl rfl rfl ?_
          refine WL_is (X_len_str rfl rfl rfl) rfl rfl rfl ?_
          refine WL_is (X_add rfl rfl rfl) rfl rfl rfl ?_
          refine WL_is (X_gtr_f rfl rfl rfl (by omega)) rfl rfl rfl ?_
          refine WL_is (X_pick_f rfl rfl rfl) rfl rfl rfl ?_
          refine WL_is (X_move rfl rfl) rfl rfl rfl ?_
          refine WL_is (X_move rfl rfl) rfl rfl rfl ?_
          refine WL_is (X_move rfl rfl) rfl rfl rfl ?_
          refine WL_is (X_eqS_c rfl rfl rfl (by assumption)) rfl rfl rfl ?_
          refine WL_is (X_pick_f rfl rfl rfl) rfl rfl rfl ?_
          (repeat (first | refine WL_nil ?_ | refine Then_normal ?_ | refine W_seq ?_ | refine W_true rfl ?_))
          skip
          refine W_region rfl ?_
          refine WL_is (X_callv rfl rfl rfl Try.func8 rfl (by assumption)) rfl rfl rfl ?_
          refine WL_is (X_assign rfl rfl) rfl rfl rfl ?_
          (repeat (first | refine WL_nil ?_ | refine Then_normal ?_ | refine W_ret ?_ | refine Then_ret ?_))
          refine Body_end rfl rfl rfl (SubR.none _) ?_
          rfl
        · have hb' : (a == b) = false := by rw [beqB_iff, decide_eq_false hab]
          (repeat (first | refine W_seq ?_))
          skip
          refine W_region rfl ?_
          refine WL_is (X_assign rfl rfl) rfl rfl rfl ?_
          (repeat (first | refine WL_nil ?_ | refine Then_normal ?_ | refine W_seq ?_))
          skip
          refine W_region rfl ?_
          refine WL_is (X_move rfl rfl) rfl rfl rfl ?_
          refine WL_is (X_callv rfl rfl rfl Try.func7 rfl (by assumption)) rfl rfl rfl ?_
          refine WL_is (X_move rfl rfl) rfl rfl rfl ?_
          refine WL_is (X_move rfl rfl) rfl rfl rfl ?_
          refine WL_is (X_len_str rfl rfl rfl) rfl rfl rfl ?_
          refine WL_is (X_move rfl rfl) rfl rfl rfl ?_
          refine WL_is (X_len_str rfl rfl rfl) rfl rfl rfl ?_
          refine WL_is (X_add rfl rfl rfl) rfl rfl rfl ?_
          refine WL_is (X_gtr_f rfl rfl rfl (by omega)) rfl rfl rfl ?_
          refine WL_is (X_pick_f rfl rfl rfl) rfl rfl rfl ?_
          refine WL_is (X_move rfl rfl) rfl rfl rfl ?_
          refine WL_is (X_move rfl rfl) rfl rfl rfl ?_
          refine WL_is (X_len_str rfl rfl rfl) rfl rfl rfl ?_
          refine WL_is (X_move rfl rfl) rfl rfl rfl ?_
          refine WL_is (X_len_str rfl rfl rfl) rfl rfl rfl ?_
          refine WL_is (X_add rfl rfl rfl) rfl rfl rfl ?_
          refine WL_is (X_gtr_f rfl rfl rfl (by omega)) rfl rfl rfl ?_
          refine WL_is (X_pick_f rfl rfl rfl) rfl rfl rfl ?_
          refine WL_is (X_move rfl rfl) rfl rfl rfl ?_
          refine WL_is (X_move rfl rfl) rfl rfl rfl ?_
          refine WL_is (X_move rfl rfl) rfl rfl rfl ?_
          refine WL_is (X_eqS_c rfl rfl rfl (by assumption)) rfl rfl rfl ?_
          refine WL_is (X_pick_f rfl rfl rfl) rfl rfl rfl ?_
          (repeat (first | refine WL_nil ?_ | refine Then_normal ?_ | refine W_seq ?_ | refine W_skip ?_ | refine W_false rfl ?_))
          skip
          refine W_region rfl ?_
          refine WL_is (X_move rfl rfl) rfl rfl rfl ?_
          refine WL_append_nil (enc := encX) (L' := l) rfl rfl rfl elemX rfl (Src.sl hv) (flatX l) (by omega) (by omega) rfl rfl rfl ?_
          intro w
          refine WL_updE (UpdE.row (enc := encX) 0 rfl (lenX _)) ?_
          rintro _ H1 M1 ⟨rfl, ho⟩
          obtain ⟨oa, oc, rfl⟩ := ho.shape
          simp only [List.eraseIdx_cons_zero]
          replace hv := hv.mono M1
          refine WL_is (X_move rfl rfl) rfl rfl rfl ?_
          refine WL_is (X_move rfl rfl) rfl rfl rfl ?_
          refine WL_call rfl rfl rfl Try.func9 rfl rfl rfl rfl (set_fn H1 l _ a y 0 ho ht) ?_
          rintro _ _ H2 M2 ⟨w1, rfl, s1, rfl⟩
          obtain ⟨xa, xc, rfl⟩ := s1.shape
          simp only [List.nil_append]
          replace hv := hv.mono M2
          refine WL_is (X_move rfl rfl) rfl rfl rfl ?_
          refine WL_is (X_extract rfl rfl rfl) rfl rfl rfl ?_
          refine WL_is (X_extract rfl rfl rfl) rfl rfl rfl ?_
          refine WL_is (X_assign rfl rfl) rfl rfl rfl ?_
          refine WL_is (X_assign rfl rfl) rfl rfl rfl ?_
          (repeat (first | refine WL_nil ?_ | refine Then_normal ?_ | refine W_seq ?_))
          skip
          refine W_region rfl ?_
          refine WL_is (X_move rfl rfl) rfl rfl rfl ?_
          refine WL_append_nil (enc := encX) (L' := l) rfl rfl rfl elemX rfl (Src.sl hv) (flatX l) (by omega) (by omega) rfl rfl rfl ?_
          intro w
          refine WL_updE (UpdE.row (enc := encX) 0 rfl (lenX _)) ?_
          rintro _ H3 M3 ⟨rfl, ho⟩
          obtain ⟨oa, oc, rfl⟩ := ho.shape
          simp only [List.eraseIdx_cons_zero]
          refine WL_is (X_move rfl rfl) rfl rfl rfl ?_
          refine WL_is (X_move rfl rfl) rfl rfl rfl ?_
          refine WL_call rfl rfl rfl Try.func9 rfl rfl rfl rfl (set_fn H3 l _ b z 0 ho ht) ?_
          rintro _ _ H4 M4 ⟨w2, rfl, s2, rfl⟩
          obtain ⟨ya, yc, rfl⟩ := s2.shape
          simp only [List.nil_append]
          replace s1 := (s1.mono M3).mono M4
          refine WL_is (X_move rfl rfl) rfl rfl rfl ?_
          refine WL_is (X_extract rfl rfl rfl) rfl rfl rfl ?_
          refine WL_is (X_extract rfl rfl rfl) rfl rfl rfl ?_
          refine WL_is (X_assign rfl rfl) rfl rfl rfl ?_
          refine WL_is (X_assign rfl rfl) rfl rfl rfl ?_
          (repeat (first | refine WL_nil ?_ | refine Then_normal ?_ | refine W_seq ?_))
          have hal := aliveX_fn H4
          by_cases e1 : setE l a y 0 = 0
          · by_cases e2 : setE l b z 0 = 0
            · have eE := order_E e1 e2 hab
              have eL := order_L e1 e2 hab
              unfold setL at s1 s2
              rw [if_pos e1] at s1
              rw [if_pos e2] at s2
              have l1 : setL l a y 0 = insX l a y := by unfold setL; rw [if_pos e1]
              have l2 : setL l b z 0 = insX l b z := by unfold setL; rw [if_pos e2]
              rw [l1, l2]
              skip
              refine W_region rfl ?_
              refine WL_is (X_move rfl rfl) rfl rfl rfl ?_
              refine WL_is (X_neq_f rfl rfl rfl (by omega)) rfl rfl rfl ?_
              refine WL_is (X_move rfl rfl) rfl rfl rfl ?_
              refine WL_is (X_move rfl rfl) rfl rfl rfl ?_
              refine WL_is (X_neq_f rfl rfl rfl (by omega)) rfl rfl rfl ?_
              refine WL_is (X_pick_f rfl rfl rfl) rfl rfl rfl ?_
              (repeat (first | refine WL_nil ?_ | refine Then_normal ?_ | refine W_seq ?_ | refine W_skip ?_ | refine W_false rfl ?_))
              skip
              refine W_region rfl ?_
              refine WL_is (X_move rfl rfl) rfl rfl rfl ?_
              refine WL_is (X_move rfl rfl) rfl rfl rfl ?_
              refine WL_is (X_move rfl rfl) rfl rfl rfl ?_
              refine WL_call rfl rfl rfl Try.func9 rfl rfl rfl rfl (set_fn H4 _ _ b z 0 s1 (may_tame (may_ins e1))) ?_
              rintro _ _ H5 M5 ⟨w3, rfl, s3, rfl⟩
              obtain ⟨pa, pc, rfl⟩ := s3.shape
              simp only [List.nil_append]
              replace s2 := s2.mono M5
              refine WL_is (X_move rfl rfl) rfl rfl rfl ?_
              refine WL_is (X_extract rfl rfl rfl) rfl rfl rfl ?_
              refine WL_is (X_extract rfl rfl rfl) rfl rfl rfl ?_
              refine WL_is (X_assign rfl rfl) rfl rfl rfl ?_
              refine WL_is (X_assign rfl rfl) rfl rfl rfl ?_
              (repeat (first | refine WL_nil ?_ | refine Then_normal ?_ | refine W_seq ?_))
              skip
              refine W_region rfl ?_
              refine WL_is (X_move rfl rfl) rfl rfl rfl ?_
              refine WL_is (X_move rfl rfl) rfl rfl rfl ?_
              refine WL_is (X_move rfl rfl) rfl rfl rfl ?_
              refine WL_call rfl rfl rfl Try.func9 rfl rfl rfl rfl (set_fn H5 _ _ a y 0 s2 (may_tame (may_ins e2))) ?_
              rintro _ _ H6 M6 ⟨w4, rfl, s4, rfl⟩
              obtain ⟨qa, qc, rfl⟩ := s4.shape
              simp only [List.nil_append]
              replace s3 := s3.mono M6
              have h1 := sameX_ref H6 _ _ _ _ s3 s4 (by have := setL_len (insX l a y) b z 0; omega) (by have := setL_len (insX l b z) a y 0; omega)
              rw [decide_eq_true eL] at h1
              replace hal := aliveX_fn H6
              rw [eE]
              refine WL_is (X_move rfl rfl) rfl rfl rfl ?_
              refine WL_is (X_extract rfl rfl rfl) rfl rfl rfl ?_
              refine WL_is (X_extract rfl rfl rfl) rfl rfl rfl ?_
              refine WL_is (X_assign rfl rfl) rfl rfl rfl ?_
              refine WL_is (X_assign rfl rfl) rfl rfl rfl ?_
              (repeat (first | refine WL_nil ?_ | refine Then_normal ?_ | refine W_seq ?_))
              skip
              refine W_region rfl ?_
              refine WL_is (X_move rfl rfl) rfl rfl rfl ?_
              refine WL_is (X_move rfl rfl) rfl rfl rfl ?_
              refine WL_is (X_callv rfl rfl rfl Try.func11 rfl (by assumption)) rfl rfl rfl ?_
              refine WL_is (X_move rfl rfl) rfl rfl rfl ?_
              refine WL_is (X_move rfl rfl) rfl rfl rfl ?_
              refine WL_is (X_move rfl rfl) rfl rfl rfl ?_
              refine WL_is (X_eql_t rfl rfl rfl (by omega)) rfl rfl rfl ?_
              refine WL_is (X_pick_t rfl rfl rfl) rfl rfl rfl ?_
              refine WL_is (X_move rfl rfl) rfl rfl rfl ?_
              refine WL_is (X_callv rfl rfl rfl Try.func8 rfl (by assumption)) rfl rfl rfl ?_
              refine WL_is (X_pick_t rfl rfl rfl) rfl rfl rfl ?_
              refine WL_is (X_assign rfl rfl) rfl rfl rfl ?_
              (repeat (first | refine WL_nil ?_ | refine Then_normal ?_ | refine W_ret ?_))
              refine Body_end rfl rfl rfl (SubR.none _) ?_
              rfl
            · skip
              refine W_region rfl ?_
              refine WL_is (X_move rfl rfl) rfl rfl rfl ?_
              refine WL_is (X_neq_f rfl rfl rfl (by omega)) rfl rfl rfl ?_
              refine WL_is (X_move rfl rfl) rfl rfl rfl ?_
              refine WL_is (X_move rfl rfl) rfl rfl rfl ?_
              refine WL_is (X_neq_t rfl rfl rfl (by omega)) rfl rfl rfl ?_
              refine WL_is (X_pick_f rfl rfl rfl) rfl rfl rfl ?_
              (repeat (first | refine WL_nil ?_ | refine Then_normal ?_ | refine W_seq ?_ | refine W_true rfl ?_))
              skip
              refine W_region rfl ?_
              refine WL_is (X_callv rfl rfl rfl Try.func8 rfl (by assumption)) rfl rfl rfl ?_
              refine WL_is (X_assign rfl rfl) rfl rfl rfl ?_
              (repeat (first | refine WL_nil ?_ | refine Then_normal ?_ | refine W_ret ?_ | refine Then_ret ?_))
              refine Body_end rfl rfl rfl (SubR.none _) ?_
              rfl
          · skip
            refine W_region rfl ?_
            refine WL_is (X_move rfl rfl) rfl rfl rfl ?_
            refine WL_is (X_neq_t rfl rfl rfl (by omega)) rfl rfl rfl ?_
            refine WL_is (X_move rfl rfl) rfl rfl rfl ?_
            refine WL_off rfl rfl rfl ?_
            refine WL_off rfl rfl rfl ?_
            refine WL_is (X_pick_t rfl rfl rfl) rfl rfl rfl ?_
            (repeat (first | refine WL_nil ?_ | refine Then_normal ?_ | refine W_seq ?_ | refine W_true rfl ?_))
            skip
            refine W_region rfl ?_
            refine WL_is (X_callv rfl rfl rfl Try.func8 rfl (by assumption)) rfl rfl rfl ?_
            refine WL_is (X_assign rfl rfl) rfl rfl rfl ?_
            (repeat (first | refine WL_nil ?_ | refine Then_normal ?_ | refine W_ret ?_ | refine Then_ret ?_))
            refine Body_end rfl rfl rfl (SubR.none _) ?_
            rfl
end Go.Proofs.Ytakdjabamjgcfaa
