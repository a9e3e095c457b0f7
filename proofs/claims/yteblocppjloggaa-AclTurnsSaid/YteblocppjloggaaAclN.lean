/- Access lists: the law on lists that are turned. -/
import Derived.Test.YteblocppjloggaaAclM
namespace Go.Proofs.Yteblocppjloggaa
open Go Go.Par PH
attribute [local irreducible] W WL Does Exec Body Then inBlk RG WR row obj pblk
theorem Acl.chmod_may {a : Acl} {b : Int} (h : a.may = true) (hb : u16 b) : (a.chmod b).may = true := by
  obtain ⟨o, g, t, us, gs, hm, m⟩ := a
  unfold u16 at hb
  unfold Acl.may at h
  simp only [Bool.and_eq_true] at h
  obtain ⟨⟨⟨h1, h2⟩, h3⟩, h4⟩ := h
  obtain ⟨p1, p2, p3, p4⟩ := (p7_iff _).1 h1
  simp only at *
  cases hm
  · rw [chmod_f]
    unfold Acl.may
    rw [(p7_iff _).2 ⟨by show b / 64 % 8 ≤ 7; omega, by show b / 8 % 8 ≤ 7; omega, by show b % 8 ≤ 7; omega, p4⟩, h2, h3]
    exact h4
  · rw [chmod_t]
    unfold Acl.may
    rw [(p7_iff _).2 ⟨by show b / 64 % 8 ≤ 7; omega, p2, by show b % 8 ≤ 7; omega, by show b / 8 % 8 ≤ 7; omega⟩, h2, h3]
    rfl
theorem Acl.chmod_chmod (a : Acl) (b c : Int) : (a.chmod b).chmod c = a.chmod c := by
  obtain ⟨o, g, t, us, gs, hm, m⟩ := a
  cases hm <;> rfl
theorem Acl.chmod_mod (a : Acl) (b : Int) : a.chmod (b % 512) = a.chmod b := by
  obtain ⟨o, g, t, us, gs, hm, m⟩ := a
  have e1 : b % 512 / 64 % 8 = b / 64 % 8 := by omega
  have e2 : b % 512 / 8 % 8 = b / 8 % 8 := by omega
  have e3 : b % 512 % 8 = b % 8 := by omega
  cases hm
  · rw [chmod_f, chmod_f, e1, e2, e3]
  · rw [chmod_t, chmod_t, e1, e2, e3]
theorem u16_mod {b : Int} (hb : u16 b) : u16 (b % 512) := by unfold u16 at *; omega
/-- The list behind the law's own turning back. -/
theorem back_t (o g t : Int) (us gs : List (Int × Int)) (m b : Int) : (⟨o, (Acl.chmod ⟨o, g, t, us, gs, true, m⟩ b).g, t, (Acl.chmod ⟨o, g, t, us, gs, true, m⟩ b).us, (Acl.chmod ⟨o, g, t, us, gs, true, m⟩ b).gs, true, m⟩ : Acl) = ⟨o, g, t, us, gs, true, m⟩ := rfl

set_option maxHeartbeats 2000000 in
theorem turns_law (h : PH) (a : Acl) (b c : Int) (v : Value) (hA : AclV h v a) (okA : a.Ok) (hb : u16 b) (hc : u16 c) : Does Try.prog 5 [v, .int .u16 b, .int .u16 c] [] h (Ret fun r _ _ => r = .bool true) := by
  have l1 := large_fn h a v hA
  have al := alive_fn h
  have hA' := hA
  obtain ⟨u, g, rfl, hu, hg⟩ := hA'
  have hb0 := hb
  unfold u16 at hb0
  refine Does_of_W Try.func5 rfl (n := 77) rfl rfl (by simp only [argE, Nat.reduceAdd] <;> rfl) ?_
  by_cases c1 : a.big
  · rw [decide_eq_true (by exact c1)] at l1
    (repeat (first | refine W_seq ?_))
    skip
    refine W_region rfl ?_
    (refine WL_box rfl rfl rfl rfl rfl rfl ?_; intro b_)
    refine WL_is (X_assign rfl rfl) rfl rfl rfl ?_
    (repeat (first | refine WL_nil ?_ | refine Then_normal ?_ | refine W_seq ?_))
    skip
    refine W_region rfl ?_
    refine WL_is (X_loadA rfl rfl (by exact idx0) rfl rfl rfl) rfl rfl rfl ?_
    refine WL_is (X_callv rfl rfl rfl Try.func8 rfl (by assumption)) rfl rfl rfl ?_
    refine WL_is (X_move rfl rfl) rfl rfl rfl ?_
    refine WL_off rfl rfl rfl ?_
    refine WL_off rfl rfl rfl ?_
    refine WL_off rfl rfl rfl ?_
    refine WL_off rfl rfl rfl ?_
    refine WL_is (X_pick_t rfl rfl rfl) rfl rfl rfl ?_
    (repeat (first | refine WL_nil ?_ | refine Then_normal ?_ | refine W_seq ?_ | refine W_true rfl ?_))
    skip
    refine W_region rfl ?_
    refine WL_is (X_callv rfl rfl rfl Try.func9 rfl (by assumption)) rfl rfl rfl ?_
    refine WL_is (X_assign rfl rfl) rfl rfl rfl ?_
    (repeat (first | refine WL_nil ?_ | refine Then_normal ?_ | refine W_ret ?_ | refine Then_ret ?_))
    refine Body_end rfl rfl rfl (SubR.none _) ?_
    rfl
  · rw [decide_eq_false (by exact c1)] at l1
    have s1 := Acl.small_of c1
    (repeat (first | refine W_seq ?_))
    refine W_region rfl ?_
    (refine WL_box rfl rfl rfl rfl rfl rfl ?_; intro b_)
    refine WL_is (X_assign rfl rfl) rfl rfl rfl ?_
    (repeat (first | refine WL_nil ?_ | refine Then_normal ?_ | refine W_seq ?_))
    skip
    refine W_region rfl ?_
    refine WL_is (X_loadA rfl rfl (by exact idx0) rfl rfl rfl) rfl rfl rfl ?_
    refine WL_is (X_callv rfl rfl rfl Try.func8 rfl (by assumption)) rfl rfl rfl ?_
    refine WL_is (X_move rfl rfl) rfl rfl rfl ?_
    refine WL_is (X_loadA rfl rfl (by exact idx0) rfl rfl rfl) rfl rfl rfl ?_
    refine WL_call rfl rfl rfl Try.func12 rfl rfl rfl rfl (copyK_ref hA s1) ?_
    rintro r R' h1 hl1 ⟨hO, rfl⟩
    replace hA := hA.mono hl1
    have d1 := check_fn h1 _ _ hO s1 okA
    cases hm : a.may with
    | false =>
      rw [hm, if_neg (by simp)] at d1
      have al1 := alive_fn h1
      refine WL_is (X_callv rfl rfl rfl Try.func11 rfl (by assumption)) rfl rfl rfl ?_
      refine WL_is (X_neq_t rfl rfl rfl (by omega)) rfl rfl rfl ?_
      refine WL_is (X_pick_f rfl rfl rfl) rfl rfl rfl ?_
      (repeat (first | refine WL_nil ?_ | refine Then_normal ?_ | refine W_seq ?_ | refine W_true rfl ?_))
      skip
      refine W_region rfl ?_
      refine WL_is (X_callv rfl rfl rfl Try.func9 rfl (by assumption)) rfl rfl rfl ?_
      refine WL_is (X_assign rfl rfl) rfl rfl rfl ?_
      (repeat (first | refine WL_nil ?_ | refine Then_normal ?_ | refine W_ret ?_ | refine Then_ret ?_))
      refine Body_end rfl rfl rfl (SubR.none _) ?_
      rfl
    | true =>
      rw [hm, if_pos rfl] at d1
      try refine WL_off rfl rfl rfl ?_
      refine WL_is (X_callv rfl rfl rfl Try.func11 rfl d1) rfl rfl rfl ?_
      refine WL_is (X_neq_f rfl rfl rfl (by omega)) rfl rfl rfl ?_
      refine WL_is (X_pick_f rfl rfl rfl) rfl rfl rfl ?_
      (repeat (first | refine WL_nil ?_ | refine Then_normal ?_ | refine W_seq ?_ | refine W_skip ?_ | refine W_false rfl ?_))
      skip
      refine W_region rfl ?_
      refine WL_is (X_loadA rfl rfl (by exact idx0) rfl rfl rfl) rfl rfl rfl ?_
      clear d1 hO
      refine WL_call rfl rfl rfl Try.func12 rfl rfl rfl rfl (copyK_ref hA s1) ?_
      rintro r1 R' h2 hl2 ⟨hO, rfl⟩
      replace hA := hA.mono hl2
      refine WL_is (X_move rfl rfl) rfl rfl rfl ?_
      refine WL_call rfl rfl rfl Try.func16 rfl rfl rfl rfl (chmodK_fn hO s1 hb) ?_
      rintro r2 R' h3 hl3 ⟨⟨u3, g3, rfl, hu3, hg3⟩, rfl⟩
      have hX : AclV h3 (aclV (a.chmod b) u3 g3) (a.chmod b) := ⟨u3, g3, rfl, hu3, hg3⟩
      obtain ⟨a4, c4, rfl⟩ := hu3.shape
      obtain ⟨a5, c5, rfl⟩ := hg3.shape
      replace hA := hA.mono hl3
      have s2 := Acl.chmod_small b s1
      have ok2 := Acl.chmod_ok okA hb
      have m2 := Acl.chmod_may hm hb
      simp only [aclV, List.nil_append] at *
      (refine WL_alloc rfl rfl rfl rfl rfl rfl ?_; intro b_)
      refine WL_store rfl rfl rfl (by exact idx0) rfl rfl rfl rfl rfl rfl rfl rfl rfl ?_
      (repeat (first | refine WL_nil ?_ | refine Then_normal ?_ | refine W_seq ?_))
      skip
      refine W_region rfl ?_
      refine WL_is (X_loadA rfl rfl (by exact idx0) rfl rfl rfl) rfl rfl rfl ?_
      refine WL_call rfl rfl rfl Try.func12 rfl rfl rfl rfl (copyK_ref hX s2) ?_
      rintro r4 R' h4 hl4 ⟨hO4, rfl⟩
      replace hA := hA.mono hl4
      replace hX := hX.mono hl4
      refine WL_is (X_move rfl rfl) rfl rfl rfl ?_
      refine WL_call rfl rfl rfl Try.func16 rfl rfl rfl rfl (chmodK_fn hO4 s2 hc) ?_
      rintro r5 R' h5 hl5 ⟨⟨u5, g5, rfl, hu5, hg5⟩, rfl⟩
      have hY : AclV h5 (aclV ((a.chmod b).chmod c) u5 g5) ((a.chmod b).chmod c) := ⟨u5, g5, rfl, hu5, hg5⟩
      obtain ⟨a6, c6, rfl⟩ := hu5.shape
      obtain ⟨a7, c7, rfl⟩ := hg5.shape
      replace hA := hA.mono hl5
      replace hX := hX.mono hl5
      simp only [aclV, List.nil_append] at *
      (refine WL_alloc rfl rfl rfl rfl rfl rfl ?_; intro b_)
      refine WL_store rfl rfl rfl (by exact idx0) rfl rfl rfl rfl rfl rfl rfl rfl rfl ?_
      (repeat (first | refine WL_nil ?_ | refine Then_normal ?_ | refine W_seq ?_))
      skip
      refine W_region rfl ?_
      refine WL_is (X_loadA rfl rfl (by exact idx2) rfl rfl rfl) rfl rfl rfl ?_
      refine WL_call rfl rfl rfl Try.func12 rfl rfl rfl rfl (copyK_ref hA s1) ?_
      rintro r6 R' h6 hl6 ⟨hO6, rfl⟩
      replace hA := hA.mono hl6
      replace hX := hX.mono hl6
      replace hY := hY.mono hl6
      refine WL_is (X_move rfl rfl) rfl rfl rfl ?_
      refine WL_call rfl rfl rfl Try.func16 rfl rfl rfl rfl (chmodK_fn hO6 s1 hc) ?_
      rintro r7 R' h7 hl7 ⟨⟨u7, g7, rfl, hu7, hg7⟩, rfl⟩
      have hZ : AclV h7 (aclV (a.chmod c) u7 g7) (a.chmod c) := ⟨u7, g7, rfl, hu7, hg7⟩
      obtain ⟨a8, c8, rfl⟩ := hu7.shape
      obtain ⟨a9, c9, rfl⟩ := hg7.shape
      replace hA := hA.mono hl7
      replace hX := hX.mono hl7
      replace hY := hY.mono hl7
      have al7 := alive_fn h7
      have d2 := check_fn h7 _ _ hX s2 ok2
      rw [m2, if_pos rfl] at d2
      have d3 := bits_fn h7 (a.chmod b) (.slice a4 (a.chmod b).us.length c4) (.slice a5 (a.chmod b).gs.length c5) ok2
      rw [Acl.chmod_bits hb] at d3
      have s3 := Acl.chmod_small c s1
      have d4 := same_fn h7 _ _ _ _ hY hZ (Acl.chmod_small c s2) s3
      rw [decide_eq_true (Acl.chmod_chmod a b c)] at d4
      simp only [aclV, List.nil_append] at *
      (refine WL_alloc rfl rfl rfl rfl rfl rfl ?_; intro b_)
      refine WL_store rfl rfl rfl (by exact idx0) rfl rfl rfl rfl rfl rfl rfl rfl rfl ?_
      (repeat (first | refine WL_nil ?_ | refine Then_normal ?_ | refine W_seq ?_))
      skip
      refine W_draw0 25 rfl rfl rfl rfl ?_
      refine RG_val rfl rfl (fun _ => rfl) (fun _ => X_loadA rfl rfl (by exact idx2) rfl rfl rfl) ?_
      refine RG_val rfl rfl (fun _ => rfl) (fun _ => X_callv rfl rfl rfl Try.func11 rfl (by assumption)) ?_
      refine RG_val rfl rfl (fun _ => rfl) (fun _ => X_neq_f rfl rfl rfl (by omega)) ?_
      refine RG_val rfl rfl (fun _ => rfl) (fun _ => X_move rfl rfl) ?_
      refine RG_val rfl rfl (fun _ => rfl) (fun _ => X_loadA rfl rfl (by exact idx2) rfl rfl rfl) ?_
      refine RG_val rfl rfl (fun _ => rfl) (fun _ => X_callv rfl rfl rfl Try.func17 rfl (by assumption)) ?_
      refine RG_val rfl rfl (fun _ => rfl) (fun _ => X_move rfl rfl) ?_
      refine RG_val rfl rfl (fun _ => rfl) (fun _ => X_rem rfl rfl rfl (by omega) (by omega)) ?_
      refine RG_val rfl rfl (fun _ => rfl) (fun _ => X_neq_f rfl rfl rfl (by omega)) ?_
      refine RG_val rfl rfl (fun _ => rfl) (fun _ => X_pick_f rfl rfl rfl) ?_
      refine RG_val rfl rfl (fun _ => rfl) (fun _ => X_move rfl rfl) ?_
      refine RG_val rfl rfl (fun _ => rfl) (fun _ => X_loadA rfl rfl (by exact idx1) rfl rfl rfl) ?_
      refine RG_val rfl rfl (fun _ => rfl) (fun _ => X_loadA rfl rfl (by exact idx0) rfl rfl rfl) ?_
      refine RG_val rfl rfl (fun _ => rfl) (fun _ => X_callv rfl rfl rfl Try.func13 rfl (by assumption)) ?_
      refine RG_val rfl rfl (fun _ => rfl) (fun _ => X_not rfl rfl) ?_
      refine RG_val rfl rfl (fun _ => rfl) (fun _ => X_pick_f rfl rfl rfl) ?_
      refine RG_val rfl rfl (fun _ => rfl) (fun _ => X_move rfl rfl) ?_
      refine RG_val rfl rfl (fun _ => rfl) (fun _ => X_loadA rfl rfl (by exact idx2) rfl rfl rfl) ?_
      refine RG_val rfl rfl (fun _ => rfl) (fun _ => X_loadA rfl rfl (by exact idx2) rfl rfl rfl) ?_
      refine RG_val rfl rfl (fun _ => rfl) (fun _ => X_callv rfl rfl rfl Try.func17 rfl (by assumption)) ?_
      refine RG_callo (fun v h' => AclV h' v (a.chmod b)) (fun _ _ _ hl h => h.mono hl) rfl (fun _ => rfl) (fun _ => rfl) Try.func16 rfl rfl rfl (fun _ => rfl) (fun vs h' hl _ => (chmodK_fn (hX.mono hl) s2 (u16_mod hb)).wkn (fun _ _ _ _ h => by have := h.1; rw [Acl.chmod_mod, Acl.chmod_chmod] at this; exact this)) ?_
      refine RG_val rfl rfl (fun _ => rfl) (fun _ => X_loadA rfl rfl (by exact idx2) rfl rfl rfl) ?_
      refine RG_callv (.bool true) rfl (fun _ => rfl) (fun vs => rfl) Try.func13 rfl rfl rfl (fun _ => rfl) (fun vs h' hl hf => ?_) ?_
      · have f2 : AclV h' (vs 20) (a.chmod b) := hf.1
        have := same_fn h' _ _ _ _ f2 (hX.mono hl) s2 s2
        rw [decide_eq_true rfl] at this
        exact this
      refine RG_val rfl rfl (fun _ => rfl) (fun _ => X_not rfl rfl) ?_
      refine RG_val rfl rfl (fun _ => rfl) (fun _ => X_pick_f rfl rfl rfl) ?_
      refine RG_nil ?_
      refine RG_end rfl (fun vs => by simp only [endE, List.cons_append, List.nil_append] <;> rfl) (fun vs => by simp only [endR, List.nil_append, List.append_nil] <;> rfl) (fun vs h' hf => hf) ?_
      rintro vs h8 hl8 -
      replace hA := hA.mono hl8
      replace hX := hX.mono hl8
      have al8 := alive_fn h8
      obtain ⟨ux, gx, ex, hux, hgx⟩ := hX
      obtain ⟨rfl, rfl⟩ : Value.slice a4 (a.chmod b).us.length c4 = ux ∧ Value.slice a5 (a.chmod b).gs.length c5 = gx := by
        simpa [aclV] using ex
      obtain ⟨o, gg, t, us, gs, hm', m⟩ := a
      cases hm' with
      | true =>
        simp only [chmod_t] at *
        have hE : AclV h8 (aclV ⟨o, gg, t, us, gs, true, m⟩ (.slice a4 us.length c4) (.slice a5 gs.length c5)) ⟨o, gg, t, us, gs, true, m⟩ := ⟨_, _, rfl, hux, hgx⟩
        have d8 := same_acl_ref h8 _ _ _ _ hE hA s1 s1
        rw [decide_eq_true rfl] at d8
        simp only [aclV] at d8
        (repeat (first | refine WL_nil ?_ | refine Then_normal ?_ | refine W_seq ?_ | refine W_skip ?_ | refine W_false rfl ?_))
        skip
        refine W_region rfl ?_
        refine WL_is (X_fieldAddr rfl rfl rfl (by simp only [Nat.zero_add] <;> rfl)) rfl rfl rfl ?_
        refine WL_is (X_load1 rfl rfl (by exact idx3) rfl rfl) rfl rfl rfl ?_
        refine WL_is (X_fieldAddr rfl rfl rfl (by simp only [Nat.zero_add] <;> rfl)) rfl rfl rfl ?_
        refine WL_store rfl rfl rfl (by exact idx2) rfl rfl rfl rfl rfl rfl rfl rfl rfl ?_
        (repeat (first | refine WL_nil ?_ | refine Then_normal ?_ | refine W_seq ?_))
        skip
        refine W_region rfl ?_
        refine WL_is (X_fieldAddr rfl rfl rfl (by simp only [Nat.zero_add] <;> rfl)) rfl rfl rfl ?_
        refine WL_is (X_load1 rfl rfl (by exact idx3) rfl rfl) rfl rfl rfl ?_
        refine WL_is (X_fieldAddr rfl rfl rfl (by simp only [Nat.zero_add] <;> rfl)) rfl rfl rfl ?_
        refine WL_store rfl rfl rfl (by exact idx2) rfl rfl rfl rfl rfl rfl rfl rfl rfl ?_
        (repeat (first | refine WL_nil ?_ | refine Then_normal ?_ | refine W_seq ?_))
        skip
        refine W_region rfl ?_
        refine WL_is (X_fieldAddr rfl rfl rfl (by simp only [Nat.zero_add] <;> rfl)) rfl rfl rfl ?_
        refine WL_is (X_load1 rfl rfl (by exact idx3) rfl rfl) rfl rfl rfl ?_
        refine WL_is (X_fieldAddr rfl rfl rfl (by simp only [Nat.zero_add] <;> rfl)) rfl rfl rfl ?_
        refine WL_store rfl rfl rfl (by exact idx2) rfl rfl rfl rfl rfl rfl rfl rfl rfl ?_
        (repeat (first | refine WL_nil ?_ | refine Then_normal ?_ | refine W_seq ?_))
        skip
        refine W_region rfl ?_
        refine WL_is (X_fieldAddr rfl rfl rfl (by simp only [Nat.zero_add] <;> rfl)) rfl rfl rfl ?_
        refine WL_is (X_load1 rfl rfl (by exact idx3) rfl rfl) rfl rfl rfl ?_
        refine WL_is (X_not rfl rfl) rfl rfl rfl ?_
        (repeat (first | refine WL_nil ?_ | refine Then_normal ?_ | refine W_seq ?_ | refine W_skip ?_ | refine W_false rfl ?_))
        skip
        refine W_region rfl ?_
        refine WL_is (X_loadA rfl rfl (by exact idx2) rfl rfl rfl) rfl rfl rfl ?_
        refine WL_is (X_loadA rfl rfl (by exact idx3) rfl rfl rfl) rfl rfl rfl ?_
        refine WL_is (X_callv rfl rfl rfl Try.func14 rfl (by assumption)) rfl rfl rfl ?_
        refine WL_is (X_move rfl rfl) rfl rfl rfl ?_
        refine WL_is (X_callv rfl rfl rfl Try.func9 rfl (by assumption)) rfl rfl rfl ?_
        refine WL_is (X_pick_t rfl rfl rfl) rfl rfl rfl ?_
        refine WL_is (X_assign rfl rfl) rfl rfl rfl ?_
        (repeat (first | refine WL_nil ?_ | refine Then_normal ?_ | refine W_ret ?_))
        refine Body_end rfl rfl rfl (SubR.none _) ?_
        rfl
      | false =>
        simp only [chmod_f] at *
        have hE : AclV h8 (aclV ⟨o, gg, t, us, gs, false, m⟩ (.slice a4 us.length c4) (.slice a5 gs.length c5)) ⟨o, gg, t, us, gs, false, m⟩ := ⟨_, _, rfl, hux, hgx⟩
        have d8 := same_acl_ref h8 _ _ _ _ hE hA s1 s1
        rw [decide_eq_true rfl] at d8
        simp only [aclV] at d8
        (repeat (first | refine WL_nil ?_ | refine Then_normal ?_ | refine W_seq ?_ | refine W_skip ?_ | refine W_false rfl ?_))
        skip
        refine W_region rfl ?_
        refine WL_is (X_fieldAddr rfl rfl rfl (by simp only [Nat.zero_add] <;> rfl)) rfl rfl rfl ?_
        refine WL_is (X_load1 rfl rfl (by exact idx3) rfl rfl) rfl rfl rfl ?_
        refine WL_is (X_fieldAddr rfl rfl rfl (by simp only [Nat.zero_add] <;> rfl)) rfl rfl rfl ?_
        refine WL_store rfl rfl rfl (by exact idx2) rfl rfl rfl rfl rfl rfl rfl rfl rfl ?_
        (repeat (first | refine WL_nil ?_ | refine Then_normal ?_ | refine W_seq ?_))
        skip
        refine W_region rfl ?_
        refine WL_is (X_fieldAddr rfl rfl rfl (by simp only [Nat.zero_add] <;> rfl)) rfl rfl rfl ?_
        refine WL_is (X_load1 rfl rfl (by exact idx3) rfl rfl) rfl rfl rfl ?_
        refine WL_is (X_fieldAddr rfl rfl rfl (by simp only [Nat.zero_add] <;> rfl)) rfl rfl rfl ?_
        refine WL_store rfl rfl rfl (by exact idx2) rfl rfl rfl rfl rfl rfl rfl rfl rfl ?_
        (repeat (first | refine WL_nil ?_ | refine Then_normal ?_ | refine W_seq ?_))
        skip
        refine W_region rfl ?_
        refine WL_is (X_fieldAddr rfl rfl rfl (by simp only [Nat.zero_add] <;> rfl)) rfl rfl rfl ?_
        refine WL_is (X_load1 rfl rfl (by exact idx3) rfl rfl) rfl rfl rfl ?_
        refine WL_is (X_fieldAddr rfl rfl rfl (by simp only [Nat.zero_add] <;> rfl)) rfl rfl rfl ?_
        refine WL_store rfl rfl rfl (by exact idx2) rfl rfl rfl rfl rfl rfl rfl rfl rfl ?_
        (repeat (first | refine WL_nil ?_ | refine Then_normal ?_ | refine W_seq ?_))
        skip
        refine W_region rfl ?_
        refine WL_is (X_fieldAddr rfl rfl rfl (by simp only [Nat.zero_add] <;> rfl)) rfl rfl rfl ?_
        refine WL_is (X_load1 rfl rfl (by exact idx3) rfl rfl) rfl rfl rfl ?_
        refine WL_is (X_not rfl rfl) rfl rfl rfl ?_
        (repeat (first | refine WL_nil ?_ | refine Then_normal ?_ | refine W_true rfl ?_))
        skip
        refine W_region rfl ?_
        refine WL_is (X_fieldAddr rfl rfl rfl (by simp only [Nat.zero_add] <;> rfl)) rfl rfl rfl ?_
        refine WL_is (X_load1 rfl rfl (by exact idx3) rfl rfl) rfl rfl rfl ?_
        refine WL_is (X_fieldAddr rfl rfl rfl (by simp only [Nat.zero_add] <;> rfl)) rfl rfl rfl ?_
        refine WL_store rfl rfl rfl (by exact idx2) rfl rfl rfl rfl rfl rfl rfl rfl rfl ?_
        (repeat (first | refine WL_nil ?_ | refine Then_normal ?_ | refine W_seq ?_))
        skip
        refine W_region rfl ?_
        refine WL_is (X_loadA rfl rfl (by exact idx2) rfl rfl rfl) rfl rfl rfl ?_
        refine WL_is (X_loadA rfl rfl (by exact idx3) rfl rfl rfl) rfl rfl rfl ?_
        refine WL_is (X_callv rfl rfl rfl Try.func14 rfl (by assumption)) rfl rfl rfl ?_
        refine WL_is (X_move rfl rfl) rfl rfl rfl ?_
        refine WL_is (X_callv rfl rfl rfl Try.func9 rfl (by assumption)) rfl rfl rfl ?_
        refine WL_is (X_pick_t rfl rfl rfl) rfl rfl rfl ?_
        refine WL_is (X_assign rfl rfl) rfl rfl rfl ?_
        (repeat (first | refine WL_nil ?_ | refine Then_normal ?_ | refine W_ret ?_))
        refine Body_end rfl rfl rfl (SubR.none _) ?_
        rfl
end Go.Proofs.Yteblocppjloggaa
