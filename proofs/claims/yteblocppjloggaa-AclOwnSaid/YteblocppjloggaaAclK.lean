/- Access lists: what is so of lists with other bits; the law on bits. -/
import Derived.Test.YteblocppjloggaaAclI
namespace Go.Proofs.Yteblocppjloggaa
open Go Go.Par PH
attribute [local irreducible] W WL Does Exec Body Then inBlk RG WR row obj pblk
theorem Acl.chmod_small {a : Acl} (b : Int) (h : a.small) : (a.chmod b).small := by
  obtain ⟨o, g, t, us, gs, hm, m⟩ := a
  cases hm <;> exact h
theorem Acl.chmod_ok {a : Acl} {b : Int} (h : a.Ok) (hb : u16 b) : (a.chmod b).Ok := by
  obtain ⟨o, g, t, us, gs, hm, m⟩ := a
  obtain ⟨h1, h2, h3, h4, h5, h6⟩ := h
  unfold u16 at hb
  unfold u8 at h1 h2 h3 h4
  cases hm
  · exact ⟨by show u8 (b / 64 % 8); unfold u8; omega, by show u8 (b / 8 % 8); unfold u8; omega, by show u8 (b % 8); unfold u8; omega, by show u8 m; unfold u8; omega, h5, h6⟩
  · exact ⟨by show u8 (b / 64 % 8); unfold u8; omega, by show u8 g; unfold u8; omega, by show u8 (b % 8); unfold u8; omega, by show u8 (b / 8 % 8); unfold u8; omega, h5, h6⟩
theorem Acl.chmod_bits {a : Acl} {b : Int} (hb : u16 b) : (a.chmod b).bits = b % 512 := by
  obtain ⟨o, g, t, us, gs, hm, m⟩ := a
  unfold u16 at hb
  cases hm
  · show b / 64 % 8 % 8 * 64 + b / 8 % 8 % 8 * 8 + b % 8 % 8 = b % 512
    omega
  · show b / 64 % 8 % 8 * 64 + b / 8 % 8 % 8 * 8 + b % 8 % 8 = b % 512
    omega
theorem Acl.bits_u16 (a : Acl) : u16 a.bits := by
  unfold u16 Acl.bits; omega
theorem Acl.of_eq (b : Int) : Acl.chmod ⟨0, 0, 0, [], [], false, 0⟩ b = ⟨b / 64 % 8, b / 8 % 8, b % 8, [], [], false, 0⟩ := rfl

set_option maxHeartbeats 1000000 in
theorem bits_law (h : PH) (a : Acl) (b : Int) (v : Value) (hA : AclV h v a) (okA : a.Ok) (hb : u16 b) : Does Try.prog 4 [v, .int .u16 b] [] h (Ret fun r _ _ => r = .bool true) := by
  have l1 := large_fn h a v hA
  have al := alive_fn h
  have hA' := hA
  obtain ⟨u, g, rfl, hu, hg⟩ := hA'
  refine Does_of_W Try.func4 rfl (n := 42) rfl rfl (by simp only [argE, Nat.reduceAdd] <;> rfl) ?_
  by_cases c1 : a.big
  · rw [decide_eq_true (by exact c1)] at l1
    (repeat (first | refine W_seq ?_))
    skip
    refine W_region rfl ?_
    (refine WL_box rfl rfl rfl rfl rfl rfl ?_; intro b_)
    refine WL_is (X_assign rfl rfl) rfl rfl rfl ?_
    (repeat (first | refine WL_nil ?_ | refine Then_normal ?_ | refine W_seq ?_))
    skip
    refine W_region rfl ?_
    refine WL_is (X_loadA rfl rfl (by exact idx0) rfl rfl rfl) rfl rfl rfl ?_
    refine WL_is (X_callv rfl rfl rfl Try.func8 rfl (by assumption)) rfl rfl rfl ?_
    (repeat (first | refine WL_nil ?_ | refine Then_normal ?_ | refine W_seq ?_ | refine W_true rfl ?_))
    skip
    refine W_region rfl ?_
    refine WL_is (X_callv rfl rfl rfl Try.func9 rfl (by assumption)) rfl rfl rfl ?_
    refine WL_is (X_assign rfl rfl) rfl rfl rfl ?_
    (repeat (first | refine WL_nil ?_ | refine Then_normal ?_ | refine W_ret ?_ | refine Then_ret ?_))
    refine Body_end rfl rfl rfl (SubR.none _) ?_
    rfl
  · rw [decide_eq_false (by exact c1)] at l1
    have s1 := Acl.small_of c1
    (repeat (first | refine W_seq ?_))
    skip
    refine W_region rfl ?_
    (refine WL_box rfl rfl rfl rfl rfl rfl ?_; intro b_)
    refine WL_is (X_assign rfl rfl) rfl rfl rfl ?_
    (repeat (first | refine WL_nil ?_ | refine Then_normal ?_ | refine W_seq ?_))
    skip
    refine W_region rfl ?_
    refine WL_is (X_loadA rfl rfl (by exact idx0) rfl rfl rfl) rfl rfl rfl ?_
    refine WL_is (X_callv rfl rfl rfl Try.func8 rfl (by assumption)) rfl rfl rfl ?_
    (repeat (first | refine WL_nil ?_ | refine Then_normal ?_ | refine W_seq ?_ | refine W_skip ?_ | refine W_false rfl ?_))
    skip
    refine W_region rfl ?_
    refine WL_is (X_loadA rfl rfl (by exact idx0) rfl rfl rfl) rfl rfl rfl ?_
    refine WL_call rfl rfl rfl Try.func12 rfl rfl rfl rfl (copyK_ref hA s1) ?_
    rintro r R' h2 hl2 ⟨⟨u2, g2, rfl, hu2, hg2⟩, rfl⟩
    have hO : AclV h2 (aclV a u2 g2) a := ⟨u2, g2, rfl, hu2, hg2⟩
    obtain ⟨a2, c2, rfl⟩ := hu2.shape
    obtain ⟨a3, c3, rfl⟩ := hg2.shape
    simp only [aclV, List.nil_append] at *
    (refine WL_alloc rfl rfl rfl rfl rfl rfl ?_; intro b_)
    refine WL_store rfl rfl rfl (by exact idx0) rfl rfl rfl rfl rfl rfl rfl rfl rfl ?_
    (repeat (first | refine WL_nil ?_ | refine Then_normal ?_ | refine W_seq ?_))
    skip
    refine W_region rfl ?_
    refine WL_is (X_loadA rfl rfl (by exact idx0) rfl rfl rfl) rfl rfl rfl ?_
    refine WL_is (X_move rfl rfl) rfl rfl rfl ?_
    refine WL_call rfl rfl rfl Try.func16 rfl rfl rfl rfl (chmodK_fn hO s1 hb) ?_
    rintro r R' h3 hl3 ⟨⟨u3, g3, rfl, hu3, hg3⟩, rfl⟩
    have hX : AclV h3 (aclV (a.chmod b) u3 g3) (a.chmod b) := ⟨u3, g3, rfl, hu3, hg3⟩
    obtain ⟨a4, c4, rfl⟩ := hu3.shape
    obtain ⟨a5, c5, rfl⟩ := hg3.shape
    replace hO := hO.mono hl3
    replace hA := (hA.mono hl2).mono hl3
    have s2 := Acl.chmod_small b s1
    have al3 := alive_fn h3
    have b1 := bits_fn h3 a (.slice a2 a.us.length c2) (.slice a3 a.gs.length c3) okA
    have b2 := bits_ref h3 a u g okA
    have e1 := same_acl_ref h3 a a _ _ hO hA s1 s1
    rw [decide_eq_true rfl] at e1
    simp only [aclV, List.nil_append] at *
    (refine WL_alloc rfl rfl rfl rfl rfl rfl ?_; intro b_)
    refine WL_store rfl rfl rfl (by exact idx0) rfl rfl rfl rfl rfl rfl rfl rfl rfl ?_
    (repeat (first | refine WL_nil ?_ | refine Then_normal ?_ | refine W_seq ?_))
    skip
    refine W_draw0 27 rfl rfl rfl rfl ?_
    refine RG_val rfl rfl (fun _ => rfl) (fun _ => X_loadA rfl rfl (by exact idx1) rfl rfl rfl) ?_
    refine RG_val rfl rfl (fun _ => rfl) (fun _ => X_callv rfl rfl rfl Try.func17 rfl (by assumption)) ?_
    refine RG_val rfl rfl (fun _ => rfl) (fun _ => X_loadA rfl rfl (by exact idx2) rfl rfl rfl) ?_
    refine RG_val rfl rfl (fun _ => rfl) (fun _ => X_callv rfl rfl rfl Try.func18 rfl (by assumption)) ?_
    refine RG_val rfl rfl (fun _ => rfl) (fun _ => X_eql_t rfl rfl rfl (by omega)) ?_
    refine RG_val rfl rfl (fun _ => rfl) (fun _ => X_move rfl rfl) ?_
    refine RG_val rfl rfl (fun _ => rfl) (fun _ => X_move rfl rfl) ?_
    refine RG_callo (fun v h' => AclV h' v (Acl.chmod ⟨0, 0, 0, [], [], false, 0⟩ b)) (fun _ _ _ hl h => h.mono hl) rfl (fun _ => rfl) (fun _ => rfl) Try.func19 rfl rfl rfl (fun _ => rfl) (fun vs h' hl _ => (ofK_fn hb).wkn (fun _ _ _ _ h => h.1)) ?_
    refine RG_val rfl rfl (fun _ => rfl) (fun _ => X_move rfl rfl) ?_
    refine RG_callo (fun v h' => AclV h' v (Acl.chmod ⟨0, 0, 0, [], [], false, 0⟩ b)) (fun _ _ _ hl h => h.mono hl) rfl (fun _ => rfl) (fun _ => rfl) Try.func20 rfl rfl rfl (fun _ => rfl) (fun vs h' hl _ => (ofK_ref hb).wkn (fun _ _ _ _ h => h.1)) ?_
    refine RG_callv (.bool true) rfl (fun _ => rfl) (fun vs => rfl) Try.func14 rfl rfl rfl (fun _ => rfl) (fun vs h' hl hf => ?_) ?_
    · have f1 : AclV h' (vs 7) (Acl.chmod ⟨0, 0, 0, [], [], false, 0⟩ b) := hf.2.1
      have f2 : AclV h' (vs 9) (Acl.chmod ⟨0, 0, 0, [], [], false, 0⟩ b) := hf.1
      have := same_acl_ref h' _ _ _ _ f1 f2 ⟨by simp [Acl.chmod], by simp [Acl.chmod]⟩ ⟨by simp [Acl.chmod], by simp [Acl.chmod]⟩
      rw [decide_eq_true rfl] at this
      exact this
    refine RG_val rfl rfl (fun _ => rfl) (fun _ => X_pick_t rfl rfl rfl) ?_
    refine RG_val rfl rfl (fun _ => rfl) (fun _ => X_move rfl rfl) ?_
    refine RG_val rfl rfl (fun _ => rfl) (fun _ => X_loadA rfl rfl (by exact idx0) rfl rfl rfl) ?_
    refine RG_val rfl rfl (fun _ => rfl) (fun _ => X_loadA rfl rfl (by exact idx2) rfl rfl rfl) ?_
    refine RG_val rfl rfl (fun _ => rfl) (fun _ => X_move rfl rfl) ?_
    refine RG_callo (fun v h' => AclV h' v (a.chmod b)) (fun _ _ _ hl h => h.mono hl) rfl (fun _ => rfl) (fun _ => rfl) Try.func21 rfl rfl rfl (fun _ => rfl) (fun vs h' hl _ => (chmodK_ref (hA.mono hl) s1 hb).wkn (fun _ _ _ _ h => h.1)) ?_
    refine RG_callv (.bool true) rfl (fun _ => rfl) (fun vs => rfl) Try.func14 rfl rfl rfl (fun _ => rfl) (fun vs h' hl hf => ?_) ?_
    · have f2 : AclV h' (vs 16) (a.chmod b) := hf.1
      have := same_acl_ref h' _ _ _ _ (hX.mono hl) f2 s2 s2
      rw [decide_eq_true rfl] at this
      exact this
    refine RG_val rfl rfl (fun _ => rfl) (fun _ => X_pick_t rfl rfl rfl) ?_
    refine RG_val rfl rfl (fun _ => rfl) (fun _ => X_move rfl rfl) ?_
    refine RG_val rfl rfl (fun _ => rfl) (fun _ => X_loadA rfl rfl (by exact idx1) rfl rfl rfl) ?_
    refine RG_val rfl rfl (fun _ => rfl) (fun _ => X_loadA rfl rfl (by exact idx2) rfl rfl rfl) ?_
    refine RG_val rfl rfl (fun _ => rfl) (fun _ => X_callv rfl rfl rfl Try.func14 rfl (by assumption)) ?_
    refine RG_val rfl rfl (fun _ => rfl) (fun _ => X_pick_t rfl rfl rfl) ?_
    refine RG_val rfl rfl (fun _ => rfl) (fun _ => X_move rfl rfl) ?_
    refine RG_val rfl rfl (fun _ => rfl) (fun _ => X_callv rfl rfl rfl Try.func9 rfl (by assumption)) ?_
    refine RG_val rfl rfl (fun _ => rfl) (fun _ => X_pick_t rfl rfl rfl) ?_
    refine RG_nil ?_
    refine RG_end rfl (fun vs => by simp only [endE, List.cons_append, List.nil_append] <;> rfl) (fun vs => by simp only [endR, List.nil_append, List.append_nil] <;> rfl) (fun vs h' hf => hf) ?_
    rintro vs h' hl -
    refine WL_is (X_assign rfl rfl) rfl rfl rfl ?_
    (repeat (first | refine WL_nil ?_ | refine Then_normal ?_ | refine W_ret ?_))
    refine Body_end rfl rfl rfl (SubR.none _) ?_
    rfl
end Go.Proofs.Yteblocppjloggaa
