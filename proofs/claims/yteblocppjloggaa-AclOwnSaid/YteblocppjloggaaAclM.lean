/- Access lists: the law on small lists. -/
import Derived.Test.YteblocppjloggaaAclK
namespace Go.Proofs.Yteblocppjloggaa
open Go Go.Par PH
attribute [local irreducible] W WL Does Exec Body Then inBlk RG WR row obj pblk
def Acl.sm (b : Int) : Acl := ⟨b / 64 % 8, b / 8 % 8, b % 8, [], [], false, 0⟩
theorem Acl.sm_small (b : Int) : (Acl.sm b).small := ⟨by simp [Acl.sm], by simp [Acl.sm]⟩
theorem Acl.sm_ok {b : Int} (hb : u16 b) : (Acl.sm b).Ok := by
  unfold u16 at hb
  exact ⟨by show u8 (b / 64 % 8); unfold u8; omega, by show u8 (b / 8 % 8); unfold u8; omega, by show u8 (b % 8); unfold u8; omega, by show u8 0; unfold u8; omega, by simp [Acl.sm], by simp [Acl.sm]⟩
theorem p7_iff (a : Acl) : a.p7 = true ↔ a.o ≤ 7 ∧ a.g ≤ 7 ∧ a.t ≤ 7 ∧ a.m ≤ 7 := by
  unfold Acl.p7
  simp only [allB]
  simp [and_assoc]
theorem Acl.sm_may {b : Int} (hb : u16 b) : (Acl.sm b).may = true := by
  unfold u16 at hb
  have h1 : (Acl.sm b).p7 = true := (p7_iff _).2 ⟨by show b / 64 % 8 ≤ 7; omega, by show b / 8 % 8 ≤ 7; omega, by show b % 8 ≤ 7; omega, by show (0 : Int) ≤ 7; omega⟩
  unfold Acl.may
  rw [h1]
  rfl
theorem Acl.sm_bits {b : Int} (hb : u16 b) : (Acl.sm b).bits = b % 512 := by
  unfold u16 at hb
  show b / 64 % 8 % 8 * 64 + b / 8 % 8 % 8 * 8 + b % 8 % 8 = b % 512
  omega
theorem Acl.sm_back {a : Acl} (ok : a.Ok) (hm : a.may = true) (h0 : a.hm = false) : Acl.sm a.bits = a := by
  obtain ⟨o, g, t, us, gs, hm', m⟩ := a
  simp only at h0
  subst h0
  unfold Acl.may at hm
  simp only [Bool.and_eq_true] at hm
  obtain ⟨⟨⟨h1, h2⟩, h3⟩, h4⟩ := hm
  obtain ⟨p1, p2, p3, p4⟩ := (p7_iff _).1 h1
  obtain ⟨k1, k2, k3, k4, _, _⟩ := ok
  unfold u8 at k1 k2 k3 k4
  simp only at *
  unfold Acl.lone at h4
  simp only [Bool.false_or, Bool.and_eq_true, decide_eq_true_eq] at h4
  obtain ⟨⟨e1, e2⟩, e3⟩ := h4
  have e2 := List.eq_nil_of_length_eq_zero e2
  have e3 := List.eq_nil_of_length_eq_zero e3
  subst e1; subst e2; subst e3
  have eb : Acl.bits ⟨o, g, t, [], [], false, 0⟩ = o % 8 * 64 + g % 8 * 8 + t % 8 := rfl
  rw [eb]
  unfold Acl.sm
  have a1 : (o % 8 * 64 + g % 8 * 8 + t % 8) / 64 % 8 = o := by omega
  have a2 : (o % 8 * 64 + g % 8 * 8 + t % 8) / 8 % 8 = g := by omega
  have a3 : (o % 8 * 64 + g % 8 * 8 + t % 8) % 8 = t := by omega
  rw [a1, a2, a3]

set_option maxHeartbeats 1000000 in
theorem small_law (h : PH) (b : Int) (a : Acl) (v : Value) (hA : AclV h v a) (okA : a.Ok) (hb : u16 b) : Does Try.prog 7 [.int .u16 b, v] [] h (Ret fun r _ _ => r = .bool true) := by
  have l1 := large_fn h a v hA
  have al := alive_fn h
  have hA' := hA
  obtain ⟨u, g, rfl, hu, hg⟩ := hA'
  have hb0 := hb
  unfold u16 at hb0
  refine Does_of_W Try.func7 rfl (n := 43) rfl rfl (by simp only [argE, Nat.reduceAdd] <;> rfl) ?_
  by_cases c1 : a.big
  · rw [decide_eq_true (by exact c1)] at l1
    (repeat (first | refine W_seq ?_))
    skip
    refine W_region rfl ?_
    (refine WL_box rfl rfl rfl rfl rfl rfl ?_; intro b_)
    refine WL_is (X_assign rfl rfl) rfl rfl rfl ?_
    (repeat (first | refine WL_nil ?_ | refine Then_normal ?_ | refine W_seq ?_))
    skip
    refine W_region rfl ?_
    refine WL_is (X_loadA rfl rfl (by exact idx0) rfl rfl rfl) rfl rfl rfl ?_
    refine WL_is (X_callv rfl rfl rfl Try.func8 rfl (by assumption)) rfl rfl rfl ?_
    (repeat (first | refine WL_nil ?_ | refine Then_normal ?_ | refine W_seq ?_ | refine W_true rfl ?_))
    skip
    refine W_region rfl ?_
    refine WL_is (X_callv rfl rfl rfl Try.func9 rfl (by assumption)) rfl rfl rfl ?_
    refine WL_is (X_assign rfl rfl) rfl rfl rfl ?_
    (repeat (first | refine WL_nil ?_ | refine Then_normal ?_ | refine W_ret ?_ | refine Then_ret ?_))
    refine Body_end rfl rfl rfl (SubR.none _) ?_
    rfl
  · rw [decide_eq_false (by exact c1)] at l1
    have s1 := Acl.small_of c1
    (repeat (first | refine W_seq ?_))
    skip
    refine W_region rfl ?_
    (refine WL_box rfl rfl rfl rfl rfl rfl ?_; intro b_)
    refine WL_is (X_assign rfl rfl) rfl rfl rfl ?_
    (repeat (first | refine WL_nil ?_ | refine Then_normal ?_ | refine W_seq ?_))
    skip
    refine W_region rfl ?_
    refine WL_is (X_loadA rfl rfl (by exact idx0) rfl rfl rfl) rfl rfl rfl ?_
    refine WL_is (X_callv rfl rfl rfl Try.func8 rfl (by assumption)) rfl rfl rfl ?_
    (repeat (first | refine WL_nil ?_ | refine Then_normal ?_ | refine W_seq ?_ | refine W_skip ?_ | refine W_false rfl ?_))
    skip
    refine W_region rfl ?_
    refine WL_is (X_move rfl rfl) rfl rfl rfl ?_
    refine WL_call rfl rfl rfl Try.func19 rfl rfl rfl rfl (ofK_fn hb) ?_
    rintro r R' h2 hl2 ⟨hO, rfl⟩
    have hO : AclV h2 r (Acl.sm b) := hO
    have s2 := Acl.sm_small b
    have d1 := check_fn h2 _ _ hO s2 (Acl.sm_ok hb)
    rw [Acl.sm_may hb, if_pos rfl] at d1
    obtain ⟨u2, g2, rfl, hu2, hg2⟩ := hO
    have d2 := bits_fn h2 (Acl.sm b) u2 g2 (Acl.sm_ok hb)
    rw [Acl.sm_bits hb] at d2
    obtain ⟨a2, c2, rfl⟩ := hu2.shape
    obtain ⟨a3, c3, rfl⟩ := hg2.shape
    replace hA := hA.mono hl2
    have al2 := alive_fn h2
    have b2 := bits_fn h2 a u g okA
    have e0 : (Acl.sm b).hm = false := rfl
    simp only [aclV, List.nil_append, e0] at *
    (refine WL_alloc rfl rfl rfl rfl rfl rfl ?_; intro b_)
    refine WL_store rfl rfl rfl (by exact idx0) rfl rfl rfl rfl rfl rfl rfl rfl rfl ?_
    (repeat (first | refine WL_nil ?_ | refine Then_normal ?_ | refine W_seq ?_))
    skip
    refine W_region rfl ?_
    refine WL_is (X_loadA rfl rfl (by exact idx0) rfl rfl rfl) rfl rfl rfl ?_
    refine WL_is (X_callv rfl rfl rfl Try.func11 rfl (by assumption)) rfl rfl rfl ?_
    refine WL_is (X_neq_f rfl rfl rfl (by omega)) rfl rfl rfl ?_
    refine WL_is (X_move rfl rfl) rfl rfl rfl ?_
    refine WL_is (X_fieldAddr rfl rfl rfl (by simp only [Nat.zero_add] <;> rfl)) rfl rfl rfl ?_
    refine WL_is (X_load1 rfl rfl (by exact idx0) rfl rfl) rfl rfl rfl ?_
    refine WL_is (X_pick_f rfl rfl rfl) rfl rfl rfl ?_
    refine WL_is (X_move rfl rfl) rfl rfl rfl ?_
    refine WL_is (X_loadA rfl rfl (by exact idx0) rfl rfl rfl) rfl rfl rfl ?_
    refine WL_is (X_callv rfl rfl rfl Try.func17 rfl (by assumption)) rfl rfl rfl ?_
    refine WL_is (X_move rfl rfl) rfl rfl rfl ?_
    refine WL_is (X_rem rfl rfl rfl (by omega) (by omega)) rfl rfl rfl ?_
    refine WL_is (X_neq_f rfl rfl rfl (by omega)) rfl rfl rfl ?_
    refine WL_is (X_pick_f rfl rfl rfl) rfl rfl rfl ?_
    (repeat (first | refine WL_nil ?_ | refine Then_normal ?_ | refine W_seq ?_ | refine W_skip ?_ | refine W_false rfl ?_))
    cases hm : a.hm with
    | true =>
      rw [hm] at hA b2
      skip
      refine W_draw0 18 rfl rfl rfl rfl ?_
      refine RG_val rfl rfl (fun _ => rfl) (fun _ => X_fieldAddr rfl rfl rfl (by simp only [Nat.zero_add] <;> rfl)) ?_
      refine RG_val rfl rfl (fun _ => rfl) (fun _ => X_load1 rfl rfl (by exact idx1) rfl rfl) ?_
      refine RG_val rfl rfl (fun _ => rfl) (fun _ => X_move rfl rfl) ?_
      refine RG_off rfl rfl (fun _ => rfl) ?_
      refine RG_off rfl rfl (fun _ => rfl) ?_
      refine RG_off rfl rfl (fun _ => rfl) ?_
      refine RG_off rfl rfl (fun _ => rfl) ?_
      refine RG_val rfl rfl (fun _ => rfl) (fun _ => X_pick_t rfl rfl rfl) ?_
      refine RG_val rfl rfl (fun _ => rfl) (fun _ => X_move rfl rfl) ?_
      refine RG_off rfl rfl (fun _ => rfl) ?_
      refine RG_off rfl rfl (fun _ => rfl) ?_
      refine RG_off rfl rfl (fun _ => rfl) ?_
      refine RG_off rfl rfl (fun _ => rfl) ?_
      refine RG_off rfl rfl (fun _ => rfl) ?_
      refine RG_val rfl rfl (fun _ => rfl) (fun _ => X_pick_t rfl rfl rfl) ?_
      refine RG_val rfl rfl (fun _ => rfl) (fun _ => X_move rfl rfl) ?_
      refine RG_val rfl rfl (fun _ => rfl) (fun _ => X_callv rfl rfl rfl Try.func9 rfl (by assumption)) ?_
      refine RG_val rfl rfl (fun _ => rfl) (fun _ => X_pick_t rfl rfl rfl) ?_
      refine RG_nil ?_
      refine RG_endv rfl (fun vs => by simp only [endE, List.cons_append, List.nil_append] <;> rfl) (fun vs => rfl) ?_
      refine WL_is (X_assign rfl rfl) rfl rfl rfl ?_
      (repeat (first | refine WL_nil ?_ | refine Then_normal ?_ | refine W_ret ?_))
      refine Body_end rfl rfl rfl (SubR.none _) ?_
      rfl
    | false =>
      rw [hm] at hA b2
      skip
      refine W_draw0 18 rfl rfl rfl rfl ?_
      refine RG_val rfl rfl (fun _ => rfl) (fun _ => X_fieldAddr rfl rfl rfl (by simp only [Nat.zero_add] <;> rfl)) ?_
      refine RG_val rfl rfl (fun _ => rfl) (fun _ => X_load1 rfl rfl (by exact idx1) rfl rfl) ?_
      refine RG_val rfl rfl (fun _ => rfl) (fun _ => X_move rfl rfl) ?_
      refine RG_val rfl rfl (fun _ => rfl) (fun _ => X_loadA rfl rfl (by exact idx1) rfl rfl rfl) ?_
      refine RG_callo (fun v h' => AclV h' v a) (fun _ _ _ hl h => h.mono hl) rfl (fun _ => rfl) (fun _ => rfl) Try.func12 rfl rfl rfl (fun _ => rfl) (fun vs h' hl _ => (copyK_ref (hA.mono hl) s1).wkn (fun _ _ _ _ h => h.1)) ?_
      cases hy : a.may with
      | true =>
        have hs := Acl.sm_back okA hy hm
        refine RG_callv (.int .i64 0) rfl (fun _ => rfl) (fun vs => rfl) Try.func11 rfl rfl rfl (fun _ => rfl) (fun vs h' hl hf => ?_) ?_
        · have hf' : AclV h' (vs 4) a := hf.1
          have := check_fn h' a _ hf' s1 okA
          rw [hy] at this
          exact this
        refine RG_val rfl rfl (fun _ => rfl) (fun _ => X_neq_f rfl rfl rfl (by omega)) ?_
        refine RG_val rfl rfl (fun _ => rfl) (fun _ => X_pick_f rfl rfl rfl) ?_
        refine RG_val rfl rfl (fun _ => rfl) (fun _ => X_move rfl rfl) ?_
        refine RG_val rfl rfl (fun _ => rfl) (fun _ => X_loadA rfl rfl (by exact idx1) rfl rfl rfl) ?_
        refine RG_val rfl rfl (fun _ => rfl) (fun _ => X_callv rfl rfl rfl Try.func17 rfl (by assumption)) ?_
        refine RG_callo (fun v h' => AclV h' v (Acl.sm a.bits)) (fun _ _ _ hl h => h.mono hl) rfl (fun _ => rfl) (fun _ => rfl) Try.func19 rfl rfl rfl (fun _ => rfl) (fun vs h' hl _ => (ofK_fn a.bits_u16).wkn (fun _ _ _ _ h => h.1)) ?_
        refine RG_val rfl rfl (fun _ => rfl) (fun _ => X_loadA rfl rfl (by exact idx1) rfl rfl rfl) ?_
        refine RG_callv (.bool true) rfl (fun _ => rfl) (fun vs => rfl) Try.func13 rfl rfl rfl (fun _ => rfl) (fun vs h' hl hf => ?_) ?_
        · have hf' : AclV h' (vs 11) (Acl.sm a.bits) := hf.1
          have := same_fn h' _ a _ _ hf' (hA.mono hl) (Acl.sm_small _) s1
          rw [decide_eq_true hs] at this
          exact this
        refine RG_val rfl rfl (fun _ => rfl) (fun _ => X_pick_f rfl rfl rfl) ?_
        refine RG_val rfl rfl (fun _ => rfl) (fun _ => X_move rfl rfl) ?_
        refine RG_val rfl rfl (fun _ => rfl) (fun _ => X_callv rfl rfl rfl Try.func9 rfl (by assumption)) ?_
        refine RG_val rfl rfl (fun _ => rfl) (fun _ => X_pick_t rfl rfl rfl) ?_
        refine RG_nil ?_
        refine RG_end rfl (fun vs => by simp only [endE, List.cons_append, List.nil_append] <;> rfl) (fun vs => by simp only [endR, List.nil_append, List.append_nil] <;> rfl) (fun vs h' hf => hf) ?_
        rintro vs h' hl -
        refine WL_is (X_assign rfl rfl) rfl rfl rfl ?_
        (repeat (first | refine WL_nil ?_ | refine Then_normal ?_ | refine W_ret ?_))
        refine Body_end rfl rfl rfl (SubR.none _) ?_
        rfl
      | false =>
        refine RG_callv (.int .i64 622) rfl (fun _ => rfl) (fun vs => rfl) Try.func11 rfl rfl rfl (fun _ => rfl) (fun vs h' hl hf => ?_) ?_
        · have hf' : AclV h' (vs 4) a := hf.1
          have := check_fn h' a _ hf' s1 okA
          rw [hy] at this
          exact this
        refine RG_val rfl rfl (fun _ => rfl) (fun _ => X_neq_t rfl rfl rfl (by omega)) ?_
        refine RG_val rfl rfl (fun _ => rfl) (fun _ => X_pick_f rfl rfl rfl) ?_
        refine RG_val rfl rfl (fun _ => rfl) (fun _ => X_move rfl rfl) ?_
        refine RG_off rfl rfl (fun _ => rfl) ?_
        refine RG_off rfl rfl (fun _ => rfl) ?_
        refine RG_off rfl rfl (fun _ => rfl) ?_
        refine RG_off rfl rfl (fun _ => rfl) ?_
        refine RG_off rfl rfl (fun _ => rfl) ?_
        refine RG_val rfl rfl (fun _ => rfl) (fun _ => X_pick_t rfl rfl rfl) ?_
        refine RG_val rfl rfl (fun _ => rfl) (fun _ => X_move rfl rfl) ?_
        refine RG_val rfl rfl (fun _ => rfl) (fun _ => X_callv rfl rfl rfl Try.func9 rfl (by assumption)) ?_
        refine RG_val rfl rfl (fun _ => rfl) (fun _ => X_pick_t rfl rfl rfl) ?_
        refine RG_nil ?_
        refine RG_end rfl (fun vs => by simp only [endE, List.cons_append, List.nil_append] <;> rfl) (fun vs => by simp only [endR, List.nil_append, List.append_nil] <;> rfl) (fun vs h' hf => hf) ?_
        rintro vs h' hl -
        refine WL_is (X_assign rfl rfl) rfl rfl rfl ?_
        (repeat (first | refine WL_nil ?_ | refine Then_normal ?_ | refine W_ret ?_))
        refine Body_end rfl rfl rfl (SubR.none _) ?_
        rfl
end Go.Proofs.Yteblocppjloggaa
