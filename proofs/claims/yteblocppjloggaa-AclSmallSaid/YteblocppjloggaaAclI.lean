/- Access lists: the laws' own walks. -/
import Derived.Test.YteblocppjloggaaAclH
namespace Go.Proofs.Yteblocppjloggaa
open Go Go.Par PH
attribute [local irreducible] W WL Does Exec Body Then inBlk RG WR row obj pblk
def Acl.big (a : Acl) : Prop := 100 < a.us.length ∨ 100 < a.gs.length
theorem Acl.small_of {a : Acl} (h : ¬ a.big) : a.small := by
  unfold Acl.big at h
  unfold Acl.small; omega
set_option maxHeartbeats 1000000 in
theorem checks_law (h : PH) (a b : Acl) (v w : Value) (hA : AclV h v a) (hB : AclV h w b) (okA : a.Ok) (okB : b.Ok) : Does Try.prog 3 [v, w] [] h (Ret fun r _ _ => r = .bool true) := by
  have l1 := large_fn h a v hA
  have l2 := large_fn h b w hB
  have al := alive_fn h
  have hA' := hA
  have hB' := hB
  obtain ⟨u, g, rfl, hu, hg⟩ := hA'
  obtain ⟨u2, g2, rfl, hu2, hg2⟩ := hB'
  refine Does_of_W Try.func3 rfl (n := 45) rfl rfl (by simp only [argE, Nat.reduceAdd] <;> rfl) ?_
  by_cases c1 : a.big
  · rw [decide_eq_true (by exact c1)] at l1
    (repeat (first | refine W_seq ?_))
    skip
    refine W_region rfl ?_
    (refine WL_box rfl rfl rfl rfl rfl rfl ?_; intro b_)
    (refine WL_box rfl rfl rfl rfl rfl rfl ?_; intro b_)
    refine WL_is (X_assign rfl rfl) rfl rfl rfl ?_
    (repeat (first | refine WL_nil ?_ | refine Then_normal ?_ | refine W_seq ?_))
    skip
    refine W_region rfl ?_
    refine WL_is (X_loadA rfl rfl (by exact idx1) rfl rfl rfl) rfl rfl rfl ?_
    refine WL_is (X_callv rfl rfl rfl Try.func8 rfl (by assumption)) rfl rfl rfl ?_
    refine WL_is (X_move rfl rfl) rfl rfl rfl ?_
    refine WL_off rfl rfl rfl ?_
    refine WL_off rfl rfl rfl ?_
    refine WL_is (X_pick_t rfl rfl rfl) rfl rfl rfl ?_
    (repeat (first | refine WL_nil ?_ | refine Then_normal ?_ | refine W_seq ?_ | refine W_true rfl ?_))
    skip
    refine W_region rfl ?_
    refine WL_is (X_callv rfl rfl rfl Try.func9 rfl (by assumption)) rfl rfl rfl ?_
    refine WL_is (X_assign rfl rfl) rfl rfl rfl ?_
    (repeat (first | refine WL_nil ?_ | refine Then_normal ?_ | refine W_ret ?_ | refine Then_ret ?_))
    refine Body_end rfl rfl rfl (SubR.none _) ?_
    rfl
  · rw [decide_eq_false (by exact c1)] at l1
    by_cases c2 : b.big
    · rw [decide_eq_true (by exact c2)] at l2
      (repeat (first | refine W_seq ?_))
      skip
      refine W_region rfl ?_
      (refine WL_box rfl rfl rfl rfl rfl rfl ?_; intro b_)
      (refine WL_box rfl rfl rfl rfl rfl rfl ?_; intro b_)
      refine WL_is (X_assign rfl rfl) rfl rfl rfl ?_
      (repeat (first | refine WL_nil ?_ | refine Then_normal ?_ | refine W_seq ?_))
      skip
      refine W_region rfl ?_
      refine WL_is (X_loadA rfl rfl (by exact idx1) rfl rfl rfl) rfl rfl rfl ?_
      refine WL_is (X_callv rfl rfl rfl Try.func8 rfl (by assumption)) rfl rfl rfl ?_
      refine WL_is (X_move rfl rfl) rfl rfl rfl ?_
      refine WL_is (X_loadA rfl rfl (by exact idx0) rfl rfl rfl) rfl rfl rfl ?_
      refine WL_is (X_callv rfl rfl rfl Try.func8 rfl (by assumption)) rfl rfl rfl ?_
      refine WL_is (X_pick_f rfl rfl rfl) rfl rfl rfl ?_
      (repeat (first | refine WL_nil ?_ | refine Then_normal ?_ | refine W_seq ?_ | refine W_true rfl ?_))
      skip
      refine W_region rfl ?_
      refine WL_is (X_callv rfl rfl rfl Try.func9 rfl (by assumption)) rfl rfl rfl ?_
      refine WL_is (X_assign rfl rfl) rfl rfl rfl ?_
      (repeat (first | refine WL_nil ?_ | refine Then_normal ?_ | refine W_ret ?_ | refine Then_ret ?_))
      refine Body_end rfl rfl rfl (SubR.none _) ?_
      rfl
    · rw [decide_eq_false (by exact c2)] at l2
      have s1 := Acl.small_of c1
      have s2 := Acl.small_of c2
      have m1 := may_ref h a _ hA s1 okA
      have e1 := same_fn h a b _ _ hA hB s1 s2
      have e2 := same_acl_ref h a b _ _ hA hB s1 s2
      cases hm : a.may with
      | true =>
        rw [hm] at m1
        (repeat (first | refine W_seq ?_))
        skip
        refine W_region rfl ?_
        (refine WL_box rfl rfl rfl rfl rfl rfl ?_; intro b_)
        (refine WL_box rfl rfl rfl rfl rfl rfl ?_; intro b_)
        refine WL_is (X_assign rfl rfl) rfl rfl rfl ?_
        (repeat (first | refine WL_nil ?_ | refine Then_normal ?_ | refine W_seq ?_))
        skip
        refine W_region rfl ?_
        refine WL_is (X_loadA rfl rfl (by exact idx1) rfl rfl rfl) rfl rfl rfl ?_
        refine WL_is (X_callv rfl rfl rfl Try.func8 rfl (by assumption)) rfl rfl rfl ?_
        refine WL_is (X_move rfl rfl) rfl rfl rfl ?_
        refine WL_is (X_loadA rfl rfl (by exact idx0) rfl rfl rfl) rfl rfl rfl ?_
        refine WL_is (X_callv rfl rfl rfl Try.func8 rfl (by assumption)) rfl rfl rfl ?_
        refine WL_is (X_pick_f rfl rfl rfl) rfl rfl rfl ?_
        (repeat (first | refine WL_nil ?_ | refine Then_normal ?_ | refine W_seq ?_ | refine W_skip ?_ | refine W_false rfl ?_))
        skip
        refine W_region rfl ?_
        refine WL_is (X_assign rfl rfl) rfl rfl rfl ?_
        (repeat (first | refine WL_nil ?_ | refine Then_normal ?_ | refine W_seq ?_))
        skip
        refine W_region rfl ?_
        refine WL_is (X_loadA rfl rfl (by exact idx1) rfl rfl rfl) rfl rfl rfl ?_
        refine WL_is (X_callv rfl rfl rfl Try.func10 rfl (by assumption)) rfl rfl rfl ?_
        refine WL_is (X_not rfl rfl) rfl rfl rfl ?_
        (repeat (first | refine WL_nil ?_ | refine Then_normal ?_ | refine W_seq ?_ | refine W_skip ?_ | refine W_false rfl ?_))
        skip
        refine W_draw0 29 rfl rfl rfl rfl ?_
        refine RG_val rfl rfl (fun _ => rfl) (fun _ => X_loadA rfl rfl (by exact idx1) rfl rfl rfl) ?_
        refine RG_callo (fun v h' => AclV h' v a) (fun _ _ _ hl h => h.mono hl) rfl (fun _ => rfl) (fun _ => rfl) Try.func12 rfl rfl rfl (fun _ => rfl) (fun vs h' hl _ => (copyK_ref (hA.mono hl) s1).wkn (fun _ _ _ _ h => h.1)) ?_
        refine RG_callv (.int .i64 0) rfl (fun _ => rfl) (fun vs => rfl) Try.func11 rfl rfl rfl (fun _ => rfl) (fun vs h' hl hf => ?_) ?_
        · have hf' : AclV h' (vs 1) a := hf.1
          have := check_fn h' a _ hf' s1 okA
          rw [hm] at this
          exact this
        refine RG_val rfl rfl (fun _ => rfl) (fun _ => X_move rfl rfl) ?_
        refine RG_val rfl rfl (fun _ => rfl) (fun _ => X_eql_t rfl rfl rfl (by omega)) ?_
        refine RG_val rfl rfl (fun _ => rfl) (fun _ => X_move rfl rfl) ?_
        refine RG_val rfl rfl (fun _ => rfl) (fun _ => X_loadA rfl rfl (by exact idx1) rfl rfl rfl) ?_
        refine RG_val rfl rfl (fun _ => rfl) (fun _ => X_loadA rfl rfl (by exact idx0) rfl rfl rfl) ?_
        refine RG_val rfl rfl (fun _ => rfl) (fun _ => X_callv rfl rfl rfl Try.func13 rfl (by assumption)) ?_
        refine RG_val rfl rfl (fun _ => rfl) (fun _ => X_loadA rfl rfl (by exact idx1) rfl rfl rfl) ?_
        refine RG_val rfl rfl (fun _ => rfl) (fun _ => X_loadA rfl rfl (by exact idx0) rfl rfl rfl) ?_
        refine RG_val rfl rfl (fun _ => rfl) (fun _ => X_callv rfl rfl rfl Try.func14 rfl (by assumption)) ?_
        refine RG_val rfl rfl (fun _ => rfl) (fun _ => X_eqB_t rfl rfl rfl rfl (by rfl)) ?_
        refine RG_val rfl rfl (fun _ => rfl) (fun _ => X_pick_t rfl rfl rfl) ?_
        refine RG_val rfl rfl (fun _ => rfl) (fun _ => X_move rfl rfl) ?_
        refine RG_val rfl rfl (fun _ => rfl) (fun _ => X_loadA rfl rfl (by exact idx1) rfl rfl rfl) ?_
        refine RG_callo (fun v h' => AclV h' v a) (fun _ _ _ hl h => h.mono hl) rfl (fun _ => rfl) (fun _ => rfl) Try.func15 rfl rfl rfl (fun _ => rfl) (fun vs h' hl _ => (copyK_fn (hA.mono hl) s1).wkn (fun _ _ _ _ h => h.1)) ?_
        refine RG_val rfl rfl (fun _ => rfl) (fun _ => X_loadA rfl rfl (by exact idx1) rfl rfl rfl) ?_
        refine RG_callv (.bool true) rfl (fun _ => rfl) (fun vs => rfl) Try.func14 rfl rfl rfl (fun _ => rfl) (fun vs h' hl hf => ?_) ?_
        · have hf' : AclV h' (vs 16) a := hf.1
          have := same_acl_ref h' a a _ _ hf' (hA.mono hl) s1 s1
          rw [decide_eq_true rfl] at this
          exact this
        refine RG_val rfl rfl (fun _ => rfl) (fun _ => X_pick_t rfl rfl rfl) ?_
        refine RG_val rfl rfl (fun _ => rfl) (fun _ => X_move rfl rfl) ?_
        refine RG_val rfl rfl (fun _ => rfl) (fun _ => X_loadA rfl rfl (by exact idx1) rfl rfl rfl) ?_
        refine RG_val rfl rfl (fun _ => rfl) (fun _ => X_loadA rfl rfl (by exact idx1) rfl rfl rfl) ?_
        refine RG_callo (fun v h' => AclV h' v a) (fun _ _ _ hl h => h.mono hl) rfl (fun _ => rfl) (fun _ => rfl) Try.func15 rfl rfl rfl (fun _ => rfl) (fun vs h' hl _ => (copyK_fn (hA.mono hl) s1).wkn (fun _ _ _ _ h => h.1)) ?_
        refine RG_callv (.bool true) rfl (fun _ => rfl) (fun vs => rfl) Try.func13 rfl rfl rfl (fun _ => rfl) (fun vs h' hl hf => ?_) ?_
        · have hf' : AclV h' (vs 23) a := hf.1
          have := same_fn h' a a _ _ (hA.mono hl) hf' s1 s1
          rw [decide_eq_true rfl] at this
          exact this
        refine RG_val rfl rfl (fun _ => rfl) (fun _ => X_pick_t rfl rfl rfl) ?_
        refine RG_val rfl rfl (fun _ => rfl) (fun _ => X_move rfl rfl) ?_
        refine RG_val rfl rfl (fun _ => rfl) (fun _ => X_callv rfl rfl rfl Try.func9 rfl (by assumption)) ?_
        refine RG_val rfl rfl (fun _ => rfl) (fun _ => X_pick_t rfl rfl rfl) ?_
        refine RG_nil ?_
        refine RG_end rfl (fun vs => by simp only [endE, List.cons_append, List.nil_append] <;> rfl) (fun vs => by simp only [endR, List.nil_append, List.append_nil] <;> rfl) (fun vs h' hf => hf) ?_
        rintro vs h' hl -
        refine WL_is (X_assign rfl rfl) rfl rfl rfl ?_
        (repeat (first | refine WL_nil ?_ | refine Then_normal ?_ | refine W_ret ?_))
        refine Body_end rfl rfl rfl (SubR.none _) ?_
        rfl
      | false =>
        rw [hm] at m1
        (repeat (first | refine W_seq ?_))
        skip
        refine W_region rfl ?_
        (refine WL_box rfl rfl rfl rfl rfl rfl ?_; intro b_)
        (refine WL_box rfl rfl rfl rfl rfl rfl ?_; intro b_)
        refine WL_is (X_assign rfl rfl) rfl rfl rfl ?_
        (repeat (first | refine WL_nil ?_ | refine Then_normal ?_ | refine W_seq ?_))
        skip
        refine W_region rfl ?_
        refine WL_is (X_loadA rfl rfl (by exact idx1) rfl rfl rfl) rfl rfl rfl ?_
        refine WL_is (X_callv rfl rfl rfl Try.func8 rfl (by assumption)) rfl rfl rfl ?_
        refine WL_is (X_move rfl rfl) rfl rfl rfl ?_
        refine WL_is (X_loadA rfl rfl (by exact idx0) rfl rfl rfl) rfl rfl rfl ?_
        refine WL_is (X_callv rfl rfl rfl Try.func8 rfl (by assumption)) rfl rfl rfl ?_
        refine WL_is (X_pick_f rfl rfl rfl) rfl rfl rfl ?_
        (repeat (first | refine WL_nil ?_ | refine Then_normal ?_ | refine W_seq ?_ | refine W_skip ?_ | refine W_false rfl ?_))
        skip
        refine W_region rfl ?_
        refine WL_is (X_assign rfl rfl) rfl rfl rfl ?_
        (repeat (first | refine WL_nil ?_ | refine Then_normal ?_ | refine W_seq ?_))
        skip
        refine W_region rfl ?_
        refine WL_is (X_loadA rfl rfl (by exact idx1) rfl rfl rfl) rfl rfl rfl ?_
        refine WL_is (X_callv rfl rfl rfl Try.func10 rfl (by assumption)) rfl rfl rfl ?_
        refine WL_is (X_not rfl rfl) rfl rfl rfl ?_
        (repeat (first | refine WL_nil ?_ | refine Then_normal ?_ | refine W_true rfl ?_))
        skip
        refine W_region rfl ?_
        refine WL_is (X_assign rfl rfl) rfl rfl rfl ?_
        (repeat (first | refine WL_nil ?_ | refine Then_normal ?_ | refine W_seq ?_))
        skip
        refine W_draw0 29 rfl rfl rfl rfl ?_
        refine RG_val rfl rfl (fun _ => rfl) (fun _ => X_loadA rfl rfl (by exact idx1) rfl rfl rfl) ?_
        refine RG_callo (fun v h' => AclV h' v a) (fun _ _ _ hl h => h.mono hl) rfl (fun _ => rfl) (fun _ => rfl) Try.func12 rfl rfl rfl (fun _ => rfl) (fun vs h' hl _ => (copyK_ref (hA.mono hl) s1).wkn (fun _ _ _ _ h => h.1)) ?_
        refine RG_callv (.int .i64 622) rfl (fun _ => rfl) (fun vs => rfl) Try.func11 rfl rfl rfl (fun _ => rfl) (fun vs h' hl hf => ?_) ?_
        · have hf' : AclV h' (vs 1) a := hf.1
          have := check_fn h' a _ hf' s1 okA
          rw [hm] at this
          exact this
        refine RG_val rfl rfl (fun _ => rfl) (fun _ => X_move rfl rfl) ?_
        refine RG_val rfl rfl (fun _ => rfl) (fun _ => X_eql_t rfl rfl rfl (by omega)) ?_
        refine RG_val rfl rfl (fun _ => rfl) (fun _ => X_move rfl rfl) ?_
        refine RG_val rfl rfl (fun _ => rfl) (fun _ => X_loadA rfl rfl (by exact idx1) rfl rfl rfl) ?_
        refine RG_val rfl rfl (fun _ => rfl) (fun _ => X_loadA rfl rfl (by exact idx0) rfl rfl rfl) ?_
        refine RG_val rfl rfl (fun _ => rfl) (fun _ => X_callv rfl rfl rfl Try.func13 rfl (by assumption)) ?_
        refine RG_val rfl rfl (fun _ => rfl) (fun _ => X_loadA rfl rfl (by exact idx1) rfl rfl rfl) ?_
        refine RG_val rfl rfl (fun _ => rfl) (fun _ => X_loadA rfl rfl (by exact idx0) rfl rfl rfl) ?_
        refine RG_val rfl rfl (fun _ => rfl) (fun _ => X_callv rfl rfl rfl Try.func14 rfl (by assumption)) ?_
        refine RG_val rfl rfl (fun _ => rfl) (fun _ => X_eqB_t rfl rfl rfl rfl (by rfl)) ?_
        refine RG_val rfl rfl (fun _ => rfl) (fun _ => X_pick_t rfl rfl rfl) ?_
        refine RG_val rfl rfl (fun _ => rfl) (fun _ => X_move rfl rfl) ?_
        refine RG_val rfl rfl (fun _ => rfl) (fun _ => X_loadA rfl rfl (by exact idx1) rfl rfl rfl) ?_
        refine RG_callo (fun v h' => AclV h' v a) (fun _ _ _ hl h => h.mono hl) rfl (fun _ => rfl) (fun _ => rfl) Try.func15 rfl rfl rfl (fun _ => rfl) (fun vs h' hl _ => (copyK_fn (hA.mono hl) s1).wkn (fun _ _ _ _ h => h.1)) ?_
        refine RG_val rfl rfl (fun _ => rfl) (fun _ => X_loadA rfl rfl (by exact idx1) rfl rfl rfl) ?_
        refine RG_callv (.bool true) rfl (fun _ => rfl) (fun vs => rfl) Try.func14 rfl rfl rfl (fun _ => rfl) (fun vs h' hl hf => ?_) ?_
        · have hf' : AclV h' (vs 16) a := hf.1
          have := same_acl_ref h' a a _ _ hf' (hA.mono hl) s1 s1
          rw [decide_eq_true rfl] at this
          exact this
        refine RG_val rfl rfl (fun _ => rfl) (fun _ => X_pick_t rfl rfl rfl) ?_
        refine RG_val rfl rfl (fun _ => rfl) (fun _ => X_move rfl rfl) ?_
        refine RG_val rfl rfl (fun _ => rfl) (fun _ => X_loadA rfl rfl (by exact idx1) rfl rfl rfl) ?_
        refine RG_val rfl rfl (fun _ => rfl) (fun _ => X_loadA rfl rfl (by exact idx1) rfl rfl rfl) ?_
        refine RG_callo (fun v h' => AclV h' v a) (fun _ _ _ hl h => h.mono hl) rfl (fun _ => rfl) (fun _ => rfl) Try.func15 rfl rfl rfl (fun _ => rfl) (fun vs h' hl _ => (copyK_fn (hA.mono hl) s1).wkn (fun _ _ _ _ h => h.1)) ?_
        refine RG_callv (.bool true) rfl (fun _ => rfl) (fun vs => rfl) Try.func13 rfl rfl rfl (fun _ => rfl) (fun vs h' hl hf => ?_) ?_
        · have hf' : AclV h' (vs 23) a := hf.1
          have := same_fn h' a a _ _ (hA.mono hl) hf' s1 s1
          rw [decide_eq_true rfl] at this
          exact this
        refine RG_val rfl rfl (fun _ => rfl) (fun _ => X_pick_t rfl rfl rfl) ?_
        refine RG_val rfl rfl (fun _ => rfl) (fun _ => X_move rfl rfl) ?_
        refine RG_val rfl rfl (fun _ => rfl) (fun _ => X_callv rfl rfl rfl Try.func9 rfl (by assumption)) ?_
        refine RG_val rfl rfl (fun _ => rfl) (fun _ => X_pick_t rfl rfl rfl) ?_
        refine RG_nil ?_
        refine RG_end rfl (fun vs => by simp only [endE, List.cons_append, List.nil_append] <;> rfl) (fun vs => by simp only [endR, List.nil_append, List.append_nil] <;> rfl) (fun vs h' hf => hf) ?_
        rintro vs h' hl -
        refine WL_is (X_assign rfl rfl) rfl rfl rfl ?_
        (repeat (first | refine WL_nil ?_ | refine Then_normal ?_ | refine W_ret ?_))
        refine Body_end rfl rfl rfl (SubR.none _) ?_
        rfl
end Go.Proofs.Yteblocppjloggaa
