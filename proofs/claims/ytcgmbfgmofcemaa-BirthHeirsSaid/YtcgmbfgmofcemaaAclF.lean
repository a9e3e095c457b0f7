/- Access lists: which are the same, which may be. -/
import Derived.Test.YtcgmbfgmofcemaaAclE
namespace Go.Proofs.Ytcgmbfgmofcemaa
set_option maxRecDepth 4000
open Go Go.Par PH



attribute [local irreducible] W WL Does Exec Body Then inBlk RG WR row obj pblk
deriving instance DecidableEq for Acl
theorem acl_ne {a b : Acl} (P : Acl → Prop) (h1 : P a) (h2 : ¬ P b) : decide (a = b) = false := decide_eq_false fun e => h2 (e ▸ h1)
set_option maxHeartbeats 1000000 in
theorem same_fn (h : PH) (a b : Acl) (v w : Value) (hv : AclV h v a) (hw : AclV h w b) (hs : a.small) (ht : b.small) : Does Try.prog 37 [v, w] [] h (Ret fun r _ _ => r = .bool (decide (a = b))) := by
  obtain ⟨u, g, rfl, hu, hg⟩ := hv
  obtain ⟨u2, g2, rfl, hu2, hg2⟩ := hw
  obtain ⟨o, gg, t, us, gs, hm, m⟩ := a
  obtain ⟨o2, gg2, t2, us2, gs2, hm2, m2⟩ := b
  obtain ⟨hs1, hs2⟩ := hs
  obtain ⟨ht1, ht2⟩ := ht
  simp only [aclV] at *
  have c1 := equalN_fn h us us2 u u2 hu hu2 (by omega) (by omega)
  have c2 := equalN_fn h gs gs2 g g2 hg hg2 (by omega) (by omega)
  refine Does_of_W Try.func37 rfl (n := 52) rfl rfl (by simp only [argE, Nat.reduceAdd] <;> rfl) ?_
  by_cases h1 : us = us2
  · rw [decide_eq_true h1] at c1
    by_cases h2 : gs = gs2
    · rw [decide_eq_true h2] at c2
      by_cases h3 : o = o2
      · by_cases h4 : gg = gg2
        · by_cases h5 : t = t2
          · by_cases h6 : hm = hm2
            · (repeat (first | refine W_seq ?_))
              skip
              refine W_region rfl ?_
              (refine WL_box rfl rfl rfl rfl rfl rfl ?_; intro b_)
              (refine WL_box rfl rfl rfl rfl rfl rfl ?_; intro b_)
              refine WL_is (X_assign rfl rfl) rfl rfl rfl ?_
              (repeat (first | refine WL_nil ?_ | refine Then_normal ?_ | refine W_seq ?_))
              skip
              refine W_region rfl ?_
              refine WL_is (X_fieldAddr rfl rfl rfl (by simp only [Nat.zero_add] <;> rfl)) rfl rfl rfl ?_
              refine WL_is (X_load1 rfl rfl (by exact idx1) rfl rfl) rfl rfl rfl ?_
              refine WL_is (X_fieldAddr rfl rfl rfl (by simp only [Nat.zero_add] <;> rfl)) rfl rfl rfl ?_
              refine WL_is (X_load1 rfl rfl (by exact idx0) rfl rfl) rfl rfl rfl ?_
              refine WL_is (X_callv rfl rfl rfl Try.func46 rfl (by assumption)) rfl rfl rfl ?_
              refine WL_is (X_move rfl rfl) rfl rfl rfl ?_
              refine WL_is (X_fieldAddr rfl rfl rfl (by simp only [Nat.zero_add] <;> rfl)) rfl rfl rfl ?_
              refine WL_is (X_load1 rfl rfl (by exact idx1) rfl rfl) rfl rfl rfl ?_
              refine WL_is (X_fieldAddr rfl rfl rfl (by simp only [Nat.zero_add] <;> rfl)) rfl rfl rfl ?_
              refine WL_is (X_load1 rfl rfl (by exact idx0) rfl rfl) rfl rfl rfl ?_
              refine WL_is (X_callv rfl rfl rfl Try.func46 rfl (by assumption)) rfl rfl rfl ?_
              refine WL_is (X_pick_t rfl rfl rfl) rfl rfl rfl ?_
              refine WL_is (X_move rfl rfl) rfl rfl rfl ?_
              refine WL_is (X_fieldAddr rfl rfl rfl (by simp only [Nat.zero_add] <;> rfl)) rfl rfl rfl ?_
              refine WL_is (X_load1 rfl rfl (by exact idx1) rfl rfl) rfl rfl rfl ?_
              refine WL_is (X_fieldAddr rfl rfl rfl (by simp only [Nat.zero_add] <;> rfl)) rfl rfl rfl ?_
              refine WL_is (X_load1 rfl rfl (by exact idx0) rfl rfl) rfl rfl rfl ?_
              refine WL_is (X_eql_t rfl rfl rfl (by omega)) rfl rfl rfl ?_
              refine WL_is (X_pick_t rfl rfl rfl) rfl rfl rfl ?_
              refine WL_is (X_move rfl rfl) rfl rfl rfl ?_
              refine WL_is (X_fieldAddr rfl rfl rfl (by simp only [Nat.zero_add] <;> rfl)) rfl rfl rfl ?_
              refine WL_is (X_load1 rfl rfl (by exact idx1) rfl rfl) rfl rfl rfl ?_
              refine WL_is (X_fieldAddr rfl rfl rfl (by simp only [Nat.zero_add] <;> rfl)) rfl rfl rfl ?_
              refine WL_is (X_load1 rfl rfl (by exact idx0) rfl rfl) rfl rfl rfl ?_
              refine WL_is (X_eql_t rfl rfl rfl (by omega)) rfl rfl rfl ?_
              refine WL_is (X_pick_t rfl rfl rfl) rfl rfl rfl ?_
              refine WL_is (X_move rfl rfl) rfl rfl rfl ?_
              refine WL_is (X_fieldAddr rfl rfl rfl (by simp only [Nat.zero_add] <;> rfl)) rfl rfl rfl ?_
              refine WL_is (X_load1 rfl rfl (by exact idx1) rfl rfl) rfl rfl rfl ?_
              refine WL_is (X_fieldAddr rfl rfl rfl (by simp only [Nat.zero_add] <;> rfl)) rfl rfl rfl ?_
              refine WL_is (X_load1 rfl rfl (by exact idx0) rfl rfl) rfl rfl rfl ?_
              refine WL_is (X_eql_t rfl rfl rfl (by omega)) rfl rfl rfl ?_
              refine WL_is (X_pick_t rfl rfl rfl) rfl rfl rfl ?_
              refine WL_is (X_move rfl rfl) rfl rfl rfl ?_
              refine WL_is (X_fieldAddr rfl rfl rfl (by simp only [Nat.zero_add] <;> rfl)) rfl rfl rfl ?_
              refine WL_is (X_load1 rfl rfl (by exact idx1) rfl rfl) rfl rfl rfl ?_
              refine WL_is (X_fieldAddr rfl rfl rfl (by simp only [Nat.zero_add] <;> rfl)) rfl rfl rfl ?_
              refine WL_is (X_load1 rfl rfl (by exact idx0) rfl rfl) rfl rfl rfl ?_
              refine WL_is (X_eqB_t rfl rfl rfl rfl (by assumption)) rfl rfl rfl ?_
              refine WL_is (X_pick_t rfl rfl rfl) rfl rfl rfl ?_
              refine WL_is (X_move rfl rfl) rfl rfl rfl ?_
              refine WL_is (X_fieldAddr rfl rfl rfl (by simp only [Nat.zero_add] <;> rfl)) rfl rfl rfl ?_
              refine WL_is (X_load1 rfl rfl (by exact idx1) rfl rfl) rfl rfl rfl ?_
              refine WL_is (X_fieldAddr rfl rfl rfl (by simp only [Nat.zero_add] <;> rfl)) rfl rfl rfl ?_
              refine WL_is (X_load1 rfl rfl (by exact idx0) rfl rfl) rfl rfl rfl ?_
              refine WL_is (X_eql rfl rfl rfl) rfl rfl rfl ?_
              refine WL_is (X_pick_t rfl rfl rfl) rfl rfl rfl ?_
              refine WL_is (X_assign rfl rfl) rfl rfl rfl ?_
              (repeat (first | refine WL_nil ?_ | refine Then_normal ?_ | refine W_ret ?_))
              refine Body_end rfl rfl rfl (SubR.none _) ?_
              subst h1 h2 h3 h4 h5 h6
              by_cases h7 : m = m2
              · subst h7; simp
              · simp [h7]
            · (repeat (first | refine W_seq ?_))
              skip
              refine W_region rfl ?_
              (refine WL_box rfl rfl rfl rfl rfl rfl ?_; intro b_)
              (refine WL_box rfl rfl rfl rfl rfl rfl ?_; intro b_)
              refine WL_is (X_assign rfl rfl) rfl rfl rfl ?_
              (repeat (first | refine WL_nil ?_ | refine Then_normal ?_ | refine W_seq ?_))
              skip
              refine W_region rfl ?_
              refine WL_is (X_fieldAddr rfl rfl rfl (by simp only [Nat.zero_add] <;> rfl)) rfl rfl rfl ?_
              refine WL_is (X_load1 rfl rfl (by exact idx1) rfl rfl) rfl rfl rfl ?_
              refine WL_is (X_fieldAddr rfl rfl rfl (by simp only [Nat.zero_add] <;> rfl)) rfl rfl rfl ?_
              refine WL_is (X_load1 rfl rfl (by exact idx0) rfl rfl) rfl rfl rfl ?_
              refine WL_is (X_callv rfl rfl rfl Try.func46 rfl (by assumption)) rfl rfl rfl ?_
              refine WL_is (X_move rfl rfl) rfl rfl rfl ?_
              refine WL_is (X_fieldAddr rfl rfl rfl (by simp only [Nat.zero_add] <;> rfl)) rfl rfl rfl ?_
              refine WL_is (X_load1 rfl rfl (by exact idx1) rfl rfl) rfl rfl rfl ?_
              refine WL_is (X_fieldAddr rfl rfl rfl (by simp only [Nat.zero_add] <;> rfl)) rfl rfl rfl ?_
              refine WL_is (X_load1 rfl rfl (by exact idx0) rfl rfl) rfl rfl rfl ?_
              refine WL_is (X_callv rfl rfl rfl Try.func46 rfl (by assumption)) rfl rfl rfl ?_
              refine WL_is (X_pick_t rfl rfl rfl) rfl rfl rfl ?_
              refine WL_is (X_move rfl rfl) rfl rfl rfl ?_
              refine WL_is (X_fieldAddr rfl rfl rfl (by simp only [Nat.zero_add] <;> rfl)) rfl rfl rfl ?_
              refine WL_is (X_load1 rfl rfl (by exact idx1) rfl rfl) rfl rfl rfl ?_
              refine WL_is (X_fieldAddr rfl rfl rfl (by simp only [Nat.zero_add] <;> rfl)) rfl rfl rfl ?_
              refine WL_is (X_load1 rfl rfl (by exact idx0) rfl rfl) rfl rfl rfl ?_
              refine WL_is (X_eql_t rfl rfl rfl (by omega)) rfl rfl rfl ?_
              refine WL_is (X_pick_t rfl rfl rfl) rfl rfl rfl ?_
              refine WL_is (X_move rfl rfl) rfl rfl rfl ?_
              refine WL_is (X_fieldAddr rfl rfl rfl (by simp only [Nat.zero_add] <;> rfl)) rfl rfl rfl ?_
              refine WL_is (X_load1 rfl rfl (by exact idx1) rfl rfl) rfl rfl rfl ?_
              refine WL_is (X_fieldAddr rfl rfl rfl (by simp only [Nat.zero_add] <;> rfl)) rfl rfl rfl ?_
              refine WL_is (X_load1 rfl rfl (by exact idx0) rfl rfl) rfl rfl rfl ?_
              refine WL_is (X_eql_t rfl rfl rfl (by omega)) rfl rfl rfl ?_
              refine WL_is (X_pick_t rfl rfl rfl) rfl rfl rfl ?_
              refine WL_is (X_move rfl rfl) rfl rfl rfl ?_
              refine WL_is (X_fieldAddr rfl rfl rfl (by simp only [Nat.zero_add] <;> rfl)) rfl rfl rfl ?_
              refine WL_is (X_load1 rfl rfl (by exact idx1) rfl rfl) rfl rfl rfl ?_
              refine WL_is (X_fieldAddr rfl rfl rfl (by simp only [Nat.zero_add] <;> rfl)) rfl rfl rfl ?_
              refine WL_is (X_load1 rfl rfl (by exact idx0) rfl rfl) rfl rfl rfl ?_
              refine WL_is (X_eql_t rfl rfl rfl (by omega)) rfl rfl rfl ?_
              refine WL_is (X_pick_t rfl rfl rfl) rfl rfl rfl ?_
              refine WL_is (X_move rfl rfl) rfl rfl rfl ?_
              refine WL_is (X_fieldAddr rfl rfl rfl (by simp only [Nat.zero_add] <;> rfl)) rfl rfl rfl ?_
              refine WL_is (X_load1 rfl rfl (by exact idx1) rfl rfl) rfl rfl rfl ?_
              refine WL_is (X_fieldAddr rfl rfl rfl (by simp only [Nat.zero_add] <;> rfl)) rfl rfl rfl ?_
              refine WL_is (X_load1 rfl rfl (by exact idx0) rfl rfl) rfl rfl rfl ?_
              refine WL_is (X_eqB_f rfl rfl rfl rfl (by assumption)) rfl rfl rfl ?_
              refine WL_is (X_pick_t rfl rfl rfl) rfl rfl rfl ?_
              refine WL_is (X_move rfl rfl) rfl rfl rfl ?_
              refine WL_off rfl rfl rfl ?_
              refine WL_off rfl rfl rfl ?_
              refine WL_off rfl rfl rfl ?_
              refine WL_off rfl rfl rfl ?_
              refine WL_off rfl rfl rfl ?_
              refine WL_is (X_pick_f rfl rfl rfl) rfl rfl rfl ?_
              refine WL_is (X_assign rfl rfl) rfl rfl rfl ?_
              (repeat (first | refine WL_nil ?_ | refine Then_normal ?_ | refine W_ret ?_))
              refine Body_end rfl rfl rfl (SubR.none _) ?_
              simp [h6]
          · (repeat (first | refine W_seq ?_))
            skip
            refine W_region rfl ?_
            (refine WL_box rfl rfl rfl rfl rfl rfl ?_; intro b_)
            (refine WL_box rfl rfl rfl rfl rfl rfl ?_; intro b_)
            refine WL_is (X_assign rfl rfl) rfl rfl rfl ?_
            (repeat (first | refine WL_nil ?_ | refine Then_normal ?_ | refine W_seq ?_))
            skip
            refine W_region rfl ?_
            refine WL_is (X_fieldAddr rfl rfl rfl (by simp only [Nat.zero_add] <;> rfl)) rfl rfl rfl ?_
            refine WL_is (X_load1 rfl rfl (by exact idx1) rfl rfl) rfl rfl rfl ?_
            refine WL_is (X_fieldAddr rfl rfl rfl (by simp only [Nat.zero_add] <;> rfl)) rfl rfl rfl ?_
            refine WL_is (X_load1 rfl rfl (by exact idx0) rfl rfl) rfl rfl rfl ?_
            refine WL_is (X_callv rfl rfl rfl Try.func46 rfl (by assumption)) rfl rfl rfl ?_
            refine WL_is (X_move rfl rfl) rfl rfl rfl ?_
            refine WL_is (X_fieldAddr rfl rfl rfl (by simp only [Nat.zero_add] <;> rfl)) rfl rfl rfl ?_
            refine WL_is (X_load1 rfl rfl (by exact idx1) rfl rfl) rfl rfl rfl ?_
            refine WL_is (X_fieldAddr rfl rfl rfl (by simp only [Nat.zero_add] <;> rfl)) rfl rfl rfl ?_
            refine WL_is (X_load1 rfl rfl (by exact idx0) rfl rfl) rfl rfl rfl ?_
            refine WL_is (X_callv rfl rfl rfl Try.func46 rfl (by assumption)) rfl rfl rfl ?_
            refine WL_is (X_pick_t rfl rfl rfl) rfl rfl rfl ?_
            refine WL_is (X_move rfl rfl) rfl rfl rfl ?_
            refine WL_is (X_fieldAddr rfl rfl rfl (by simp only [Nat.zero_add] <;> rfl)) rfl rfl rfl ?_
            refine WL_is (X_load1 rfl rfl (by exact idx1) rfl rfl) rfl rfl rfl ?_
            refine WL_is (X_fieldAddr rfl rfl rfl (by simp only [Nat.zero_add] <;> rfl)) rfl rfl rfl ?_
            refine WL_is (X_load1 rfl rfl (by exact idx0) rfl rfl) rfl rfl rfl ?_
            refine WL_is (X_eql_t rfl rfl rfl (by omega)) rfl rfl rfl ?_
            refine WL_is (X_pick_t rfl rfl rfl) rfl rfl rfl ?_
            refine WL_is (X_move rfl rfl) rfl rfl rfl ?_
            refine WL_is (X_fieldAddr rfl rfl rfl (by simp only [Nat.zero_add] <;> rfl)) rfl rfl rfl ?_
            refine WL_is (X_load1 rfl rfl (by exact idx1) rfl rfl) rfl rfl rfl ?_
            refine WL_is (X_fieldAddr rfl rfl rfl (by simp only [Nat.zero_add] <;> rfl)) rfl rfl rfl ?_
            refine WL_is (X_load1 rfl rfl (by exact idx0) rfl rfl) rfl rfl rfl ?_
            refine WL_is (X_eql_t rfl rfl rfl (by omega)) rfl rfl rfl ?_
            refine WL_is (X_pick_t rfl rfl rfl) rfl rfl rfl ?_
            refine WL_is (X_move rfl rfl) rfl rfl rfl ?_
            refine WL_is (X_fieldAddr rfl rfl rfl (by simp only [Nat.zero_add] <;> rfl)) rfl rfl rfl ?_
            refine WL_is (X_load1 rfl rfl (by exact idx1) rfl rfl) rfl rfl rfl ?_
            refine WL_is (X_fieldAddr rfl rfl rfl (by simp only [Nat.zero_add] <;> rfl)) rfl rfl rfl ?_
            refine WL_is (X_load1 rfl rfl (by exact idx0) rfl rfl) rfl rfl rfl ?_
            refine WL_is (X_eql_f rfl rfl rfl (by omega)) rfl rfl rfl ?_
            refine WL_is (X_pick_t rfl rfl rfl) rfl rfl rfl ?_
            refine WL_is (X_move rfl rfl) rfl rfl rfl ?_
            refine WL_off rfl rfl rfl ?_
            refine WL_off rfl rfl rfl ?_
            refine WL_off rfl rfl rfl ?_
            refine WL_off rfl rfl rfl ?_
            refine WL_off rfl rfl rfl ?_
            refine WL_is (X_pick_f rfl rfl rfl) rfl rfl rfl ?_
            refine WL_is (X_move rfl rfl) rfl rfl rfl ?_
            refine WL_off rfl rfl rfl ?_
            refine WL_off rfl rfl rfl ?_
            refine WL_off rfl rfl rfl ?_
            refine WL_off rfl rfl rfl ?_
            refine WL_off rfl rfl rfl ?_
            refine WL_is (X_pick_f rfl rfl rfl) rfl rfl rfl ?_
            refine WL_is (X_assign rfl rfl) rfl rfl rfl ?_
            (repeat (first | refine WL_nil ?_ | refine Then_normal ?_ | refine W_ret ?_))
            refine Body_end rfl rfl rfl (SubR.none _) ?_
            simp [h5]
        · (repeat (first | refine W_seq ?_))
          skip
          refine W_region rfl ?_
          (refine WL_box rfl rfl rfl rfl rfl rfl ?_; intro b_)
          (refine WL_box rfl rfl rfl rfl rfl rfl ?_; intro b_)
          refine WL_is (X_assign rfl rfl) rfl rfl rfl ?_
          (repeat (first | refine WL_nil ?_ | refine Then_normal ?_ | refine W_seq ?_))
          skip
          refine W_region rfl ?_
          refine WL_is (X_fieldAddr rfl rfl rfl (by simp only [Nat.zero_add] <;> rfl)) rfl rfl rfl ?_
          refine WL_is (X_load1 rfl rfl (by exact idx1) rfl rfl) rfl rfl rfl ?_
          refine WL_is (X_fieldAddr rfl rfl rfl (by simp only [Nat.zero_add] <;> rfl)) rfl rfl rfl ?_
          refine WL_is (X_load1 rfl rfl (by exact idx0) rfl rfl) rfl rfl rfl ?_
          refine WL_is (X_callv rfl rfl rfl Try.func46 rfl (by assumption)) rfl rfl rfl ?_
          refine WL_is (X_move rfl rfl) rfl rfl rfl ?_
          refine WL_is (X_fieldAddr rfl rfl rfl (by simp only [Nat.zero_add] <;> rfl)) rfl rfl rfl ?_
          refine WL_is (X_load1 rfl rfl (by exact idx1) rfl rfl) rfl rfl rfl ?_
          refine WL_is (X_fieldAddr rfl rfl rfl (by simp only [Nat.zero_add] <;> rfl)) rfl rfl rfl ?_
          refine WL_is (X_load1 rfl rfl (by exact idx0) rfl rfl) rfl rfl rfl ?_
          refine WL_is (X_callv rfl rfl rfl Try.func46 rfl (by assumption)) rfl rfl rfl ?_
          refine WL_is (X_pick_t rfl rfl rfl) rfl rfl rfl ?_
          refine WL_is (X_move rfl rfl) rfl rfl rfl ?_
          refine WL_is (X_fieldAddr rfl rfl rfl (by simp only [Nat.zero_add] <;> rfl)) rfl rfl rfl ?_
          refine WL_is (X_load1 rfl rfl (by exact idx1) rfl rfl) rfl rfl rfl ?_
          refine WL_is (X_fieldAddr rfl rfl rfl (by simp only [Nat.zero_add] <;> rfl)) rfl rfl rfl ?_
          refine WL_is (X_load1 rfl rfl (by exact idx0) rfl rfl) rfl rfl rfl ?_
          refine WL_is (X_eql_t rfl rfl rfl (by omega)) rfl rfl rfl ?_
          refine WL_is (X_pick_t rfl rfl rfl) rfl rfl rfl ?_
          refine WL_is (X_move rfl rfl) rfl rfl rfl ?_
          refine WL_is (X_fieldAddr rfl rfl rfl (by simp only [Nat.zero_add] <;> rfl)) rfl rfl rfl ?_
          refine WL_is (X_load1 rfl rfl (by exact idx1) rfl rfl) rfl rfl rfl ?_
          refine WL_is (X_fieldAddr rfl rfl rfl (by simp only [Nat.zero_add] <;> rfl)) rfl rfl rfl ?_
          refine WL_is (X_load1 rfl rfl (by exact idx0) rfl rfl) rfl rfl rfl ?_
          refine WL_is (X_eql_f rfl rfl rfl (by omega)) rfl rfl rfl ?_
          refine WL_is (X_pick_t rfl rfl rfl) rfl rfl rfl ?_
          refine WL_is (X_move rfl rfl) rfl rfl rfl ?_
          refine WL_off rfl rfl rfl ?_
          refine WL_off rfl rfl rfl ?_
          refine WL_off rfl rfl rfl ?_
          refine WL_off rfl rfl rfl ?_
          refine WL_off rfl rfl rfl ?_
          refine WL_is (X_pick_f rfl rfl rfl) rfl rfl rfl ?_
          refine WL_is (X_move rfl rfl) rfl rfl rfl ?_
          refine WL_off rfl rfl rfl ?_
          refine WL_off rfl rfl rfl ?_
          refine WL_off rfl rfl rfl ?_
          refine WL_off rfl rfl rfl ?_
          refine WL_off rfl rfl rfl ?_
          refine WL_is (X_pick_f rfl rfl rfl) rfl rfl rfl ?_
          refine WL_is (X_move rfl rfl) rfl rfl rfl ?_
          refine WL_off rfl rfl rfl ?_
          refine WL_off rfl rfl rfl ?_
          refine WL_off rfl rfl rfl ?_
          refine WL_off rfl rfl rfl ?_
          refine WL_off rfl rfl rfl ?_
          refine WL_is (X_pick_f rfl rfl rfl) rfl rfl rfl ?_
          refine WL_is (X_assign rfl rfl) rfl rfl rfl ?_
          (repeat (first | refine WL_nil ?_ | refine Then_normal ?_ | refine W_ret ?_))
          refine Body_end rfl rfl rfl (SubR.none _) ?_
          simp [h4]
      · (repeat (first | refine W_seq ?_))
        skip
        refine W_region rfl ?_
        (refine WL_box rfl rfl rfl rfl rfl rfl ?_; intro b_)
        (refine WL_box rfl rfl rfl rfl rfl rfl ?_; intro b_)
        refine WL_is (X_assign rfl rfl) rfl rfl rfl ?_
        (repeat (first | refine WL_nil ?_ | refine Then_normal ?_ | refine W_seq ?_))
        skip
        refine W_region rfl ?_
        refine WL_is (X_fieldAddr rfl rfl rfl (by simp only [Nat.zero_add] <;> rfl)) rfl rfl rfl ?_
        refine WL_is (X_load1 rfl rfl (by exact idx1) rfl rfl) rfl rfl rfl ?_
        refine WL_is (X_fieldAddr rfl rfl rfl (by simp only [Nat.zero_add] <;> rfl)) rfl rfl rfl ?_
        refine WL_is (X_load1 rfl rfl (by exact idx0) rfl rfl) rfl rfl rfl ?_
        refine WL_is (X_callv rfl rfl rfl Try.func46 rfl (by assumption)) rfl rfl rfl ?_
        refine WL_is (X_move rfl rfl) rfl rfl rfl ?_
        refine WL_is (X_fieldAddr rfl rfl rfl (by simp only [Nat.zero_add] <;> rfl)) rfl rfl rfl ?_
        refine WL_is (X_load1 rfl rfl (by exact idx1) rfl rfl) rfl rfl rfl ?_
        refine WL_is (X_fieldAddr rfl rfl rfl (by simp only [Nat.zero_add] <;> rfl)) rfl rfl rfl ?_
        refine WL_is (X_load1 rfl rfl (by exact idx0) rfl rfl) rfl rfl rfl ?_
        refine WL_is (X_callv rfl rfl rfl Try.func46 rfl (by assumption)) rfl rfl rfl ?_
        refine WL_is (X_pick_t rfl rfl rfl) rfl rfl rfl ?_
        refine WL_is (X_move rfl rfl) rfl rfl rfl ?_
        refine WL_is (X_fieldAddr rfl rfl rfl (by simp only [Nat.zero_add] <;> rfl)) rfl rfl rfl ?_
        refine WL_is (X_load1 rfl rfl (by exact idx1) rfl rfl) rfl rfl rfl ?_
        refine WL_is (X_fieldAddr rfl rfl rfl (by simp only [Nat.zero_add] <;> rfl)) rfl rfl rfl ?_
        refine WL_is (X_load1 rfl rfl (by exact idx0) rfl rfl) rfl rfl rfl ?_
        refine WL_is (X_eql_f rfl rfl rfl (by omega)) rfl rfl rfl ?_
        refine WL_is (X_pick_t rfl rfl rfl) rfl rfl rfl ?_
        refine WL_is (X_move rfl rfl) rfl rfl rfl ?_
        refine WL_off rfl rfl rfl ?_
        refine WL_off rfl rfl rfl ?_
        refine WL_off rfl rfl rfl ?_
        refine WL_off rfl rfl rfl ?_
        refine WL_off rfl rfl rfl ?_
        refine WL_is (X_pick_f rfl rfl rfl) rfl rfl rfl ?_
        refine WL_is (X_move rfl rfl) rfl rfl rfl ?_
        refine WL_off rfl rfl rfl ?_
        refine WL_off rfl rfl rfl ?_
        refine WL_off rfl rfl rfl ?_
        refine WL_off rfl rfl rfl ?_
        refine WL_off rfl rfl rfl ?_
        refine WL_is (X_pick_f rfl rfl rfl) rfl rfl rfl ?_
        refine WL_is (X_move rfl rfl) rfl rfl rfl ?_
        refine WL_off rfl rfl rfl ?_
        refine WL_off rfl rfl rfl ?_
        refine WL_off rfl rfl rfl ?_
        refine WL_off rfl rfl rfl ?_
        refine WL_off rfl rfl rfl ?_
        refine WL_is (X_pick_f rfl rfl rfl) rfl rfl rfl ?_
        refine WL_is (X_move rfl rfl) rfl rfl rfl ?_
        refine WL_off rfl rfl rfl ?_
        refine WL_off rfl rfl rfl ?_
        refine WL_off rfl rfl rfl ?_
        refine WL_off rfl rfl rfl ?_
        refine WL_off rfl rfl rfl ?_
        refine WL_is (X_pick_f rfl rfl rfl) rfl rfl rfl ?_
        refine WL_is (X_assign rfl rfl) rfl rfl rfl ?_
        (repeat (first | refine WL_nil ?_ | refine Then_normal ?_ | refine W_ret ?_))
        refine Body_end rfl rfl rfl (SubR.none _) ?_
        simp [h3]
    · rw [decide_eq_false h2] at c2
      (repeat (first | refine W_seq ?_))
      skip
      refine W_region rfl ?_
      (refine WL_box rfl rfl rfl rfl rfl rfl ?_; intro b_)
      (refine WL_box rfl rfl rfl rfl rfl rfl ?_; intro b_)
      refine WL_is (X_assign rfl rfl) rfl rfl rfl ?_
      (repeat (first | refine WL_nil ?_ | refine Then_normal ?_ | refine W_seq ?_))
      skip
      refine W_region rfl ?_
      refine WL_is (X_fieldAddr rfl rfl rfl (by simp only [Nat.zero_add] <;> rfl)) rfl rfl rfl ?_
      refine WL_is (X_load1 rfl rfl (by exact idx1) rfl rfl) rfl rfl rfl ?_
      refine WL_is (X_fieldAddr rfl rfl rfl (by simp only [Nat.zero_add] <;> rfl)) rfl rfl rfl ?_
      refine WL_is (X_load1 rfl rfl (by exact idx0) rfl rfl) rfl rfl rfl ?_
      refine WL_is (X_callv rfl rfl rfl Try.func46 rfl (by assumption)) rfl rfl rfl ?_
      refine WL_is (X_move rfl rfl) rfl rfl rfl ?_
      refine WL_is (X_fieldAddr rfl rfl rfl (by simp only [Nat.zero_add] <;> rfl)) rfl rfl rfl ?_
      refine WL_is (X_load1 rfl rfl (by exact idx1) rfl rfl) rfl rfl rfl ?_
      refine WL_is (X_fieldAddr rfl rfl rfl (by simp only [Nat.zero_add] <;> rfl)) rfl rfl rfl ?_
      refine WL_is (X_load1 rfl rfl (by exact idx0) rfl rfl) rfl rfl rfl ?_
      refine WL_is (X_callv rfl rfl rfl Try.func46 rfl (by assumption)) rfl rfl rfl ?_
      refine WL_is (X_pick_t rfl rfl rfl) rfl rfl rfl ?_
      refine WL_is (X_move rfl rfl) rfl rfl rfl ?_
      refine WL_off rfl rfl rfl ?_
      refine WL_off rfl rfl rfl ?_
      refine WL_off rfl rfl rfl ?_
      refine WL_off rfl rfl rfl ?_
      refine WL_off rfl rfl rfl ?_
      refine WL_is (X_pick_f rfl rfl rfl) rfl rfl rfl ?_
      refine WL_is (X_move rfl rfl) rfl rfl rfl ?_
      refine WL_off rfl rfl rfl ?_
      refine WL_off rfl rfl rfl ?_
      refine WL_off rfl rfl rfl ?_
      refine WL_off rfl rfl rfl ?_
      refine WL_off rfl rfl rfl ?_
      refine WL_is (X_pick_f rfl rfl rfl) rfl rfl rfl ?_
      refine WL_is (X_move rfl rfl) rfl rfl rfl ?_
      refine WL_off rfl rfl rfl ?_
      refine WL_off rfl rfl rfl ?_
      refine WL_off rfl rfl rfl ?_
      refine WL_off rfl rfl rfl ?_
      refine WL_off rfl rfl rfl ?_
      refine WL_is (X_pick_f rfl rfl rfl) rfl rfl rfl ?_
      refine WL_is (X_move rfl rfl) rfl rfl rfl ?_
      refine WL_off rfl rfl rfl ?_
      refine WL_off rfl rfl rfl ?_
      refine WL_off rfl rfl rfl ?_
      refine WL_off rfl rfl rfl ?_
      refine WL_off rfl rfl rfl ?_
      refine WL_is (X_pick_f rfl rfl rfl) rfl rfl rfl ?_
      refine WL_is (X_move rfl rfl) rfl rfl rfl ?_
      refine WL_off rfl rfl rfl ?_
      refine WL_off rfl rfl rfl ?_
      refine WL_off rfl rfl rfl ?_
      refine WL_off rfl rfl rfl ?_
      refine WL_off rfl rfl rfl ?_
      refine WL_is (X_pick_f rfl rfl rfl) rfl rfl rfl ?_
      refine WL_is (X_assign rfl rfl) rfl rfl rfl ?_
      (repeat (first | refine WL_nil ?_ | refine Then_normal ?_ | refine W_ret ?_))
      refine Body_end rfl rfl rfl (SubR.none _) ?_
      simp [h2]
  · rw [decide_eq_false h1] at c1
    (repeat (first | refine W_seq ?_))
    skip
    refine W_region rfl ?_
    (refine WL_box rfl rfl rfl rfl rfl rfl ?_; intro b_)
    (refine WL_box rfl rfl rfl rfl rfl rfl ?_; intro b_)
    refine WL_is (X_assign rfl rfl) rfl rfl rfl ?_
    (repeat (first | refine WL_nil ?_ | refine Then_normal ?_ | refine W_seq ?_))
    skip
    refine W_region rfl ?_
    refine WL_is (X_fieldAddr rfl rfl rfl (by simp only [Nat.zero_add] <;> rfl)) rfl rfl rfl ?_
    refine WL_is (X_load1 rfl rfl (by exact idx1) rfl rfl) rfl rfl rfl ?_
    refine WL_is (X_fieldAddr rfl rfl rfl (by simp only [Nat.zero_add] <;> rfl)) rfl rfl rfl ?_
    refine WL_is (X_load1 rfl rfl (by exact idx0) rfl rfl) rfl rfl rfl ?_
    refine WL_is (X_callv rfl rfl rfl Try.func46 rfl (by assumption)) rfl rfl rfl ?_
    refine WL_is (X_move rfl rfl) rfl rfl rfl ?_
    refine WL_off rfl rfl rfl ?_
    refine WL_off rfl rfl rfl ?_
    refine WL_off rfl rfl rfl ?_
    refine WL_off rfl rfl rfl ?_
    refine WL_off rfl rfl rfl ?_
    refine WL_is (X_pick_f rfl rfl rfl) rfl rfl rfl ?_
    refine WL_is (X_move rfl rfl) rfl rfl rfl ?_
    refine WL_off rfl rfl rfl ?_
    refine WL_off rfl rfl rfl ?_
    refine WL_off rfl rfl rfl ?_
    refine WL_off rfl rfl rfl ?_
    refine WL_off rfl rfl rfl ?_
    refine WL_is (X_pick_f rfl rfl rfl) rfl rfl rfl ?_
    refine WL_is (X_move rfl rfl) rfl rfl rfl ?_
    refine WL_off rfl rfl rfl ?_
    refine WL_off rfl rfl rfl ?_
    refine WL_off rfl rfl rfl ?_
    refine WL_off rfl rfl rfl ?_
    refine WL_off rfl rfl rfl ?_
    refine WL_is (X_pick_f rfl rfl rfl) rfl rfl rfl ?_
    refine WL_is (X_move rfl rfl) rfl rfl rfl ?_
    refine WL_off rfl rfl rfl ?_
    refine WL_off rfl rfl rfl ?_
    refine WL_off rfl rfl rfl ?_
    refine WL_off rfl rfl rfl ?_
    refine WL_off rfl rfl rfl ?_
    refine WL_is (X_pick_f rfl rfl rfl) rfl rfl rfl ?_
    refine WL_is (X_move rfl rfl) rfl rfl rfl ?_
    refine WL_off rfl rfl rfl ?_
    refine WL_off rfl rfl rfl ?_
    refine WL_off rfl rfl rfl ?_
    refine WL_off rfl rfl rfl ?_
    refine WL_off rfl rfl rfl ?_
    refine WL_is (X_pick_f rfl rfl rfl) rfl rfl rfl ?_
    refine WL_is (X_move rfl rfl) rfl rfl rfl ?_
    refine WL_off rfl rfl rfl ?_
    refine WL_off rfl rfl rfl ?_
    refine WL_off rfl rfl rfl ?_
    refine WL_off rfl rfl rfl ?_
    refine WL_off rfl rfl rfl ?_
    refine WL_is (X_pick_f rfl rfl rfl) rfl rfl rfl ?_
    refine WL_is (X_assign rfl rfl) rfl rfl rfl ?_
    (repeat (first | refine WL_nil ?_ | refine Then_normal ?_ | refine W_ret ?_))
    refine Body_end rfl rfl rfl (SubR.none _) ?_
    simp [h1]
set_option maxHeartbeats 1000000 in
theorem same_acl_ref (h : PH) (a b : Acl) (v w : Value) (hv : AclV h v a) (hw : AclV h w b) (hs : a.small) (ht : b.small) : Does Try.prog 16 [v, w] [] h (Ret fun r _ _ => r = .bool (decide (a = b))) := by
  obtain ⟨u, g, rfl, hu, hg⟩ := hv
  obtain ⟨u2, g2, rfl, hu2, hg2⟩ := hw
  obtain ⟨o, gg, t, us, gs, hm, m⟩ := a
  obtain ⟨o2, gg2, t2, us2, gs2, hm2, m2⟩ := b
  obtain ⟨hs1, hs2⟩ := hs
  obtain ⟨ht1, ht2⟩ := ht
  simp only [aclV] at *
  have c1 := same_ref h us us2 u u2 hu hu2 (by omega) (by omega)
  have c2 := same_ref h gs gs2 g g2 hg hg2 (by omega) (by omega)
  refine Does_of_W Try.func16 rfl (n := 52) rfl rfl (by simp only [argE, Nat.reduceAdd] <;> rfl) ?_
  by_cases h3 : o = o2
  · by_cases h4 : gg = gg2
    · by_cases h5 : t = t2
      · by_cases h6 : hm = hm2
        · by_cases h7 : m = m2
          · by_cases h1 : us = us2
            · rw [decide_eq_true h1] at c1
              (repeat (first | refine W_seq ?_))
              skip
              refine W_region rfl ?_
              (refine WL_box rfl rfl rfl rfl rfl rfl ?_; intro b_)
              (refine WL_box rfl rfl rfl rfl rfl rfl ?_; intro b_)
              refine WL_is (X_assign rfl rfl) rfl rfl rfl ?_
              (repeat (first | refine WL_nil ?_ | refine Then_normal ?_ | refine W_seq ?_))
              skip
              refine W_region rfl ?_
              refine WL_is (X_fieldAddr rfl rfl rfl (by simp only [Nat.zero_add] <;> rfl)) rfl rfl rfl ?_
              refine WL_is (X_load1 rfl rfl (by exact idx1) rfl rfl) rfl rfl rfl ?_
              refine WL_is (X_fieldAddr rfl rfl rfl (by simp only [Nat.zero_add] <;> rfl)) rfl rfl rfl ?_
              refine WL_is (X_load1 rfl rfl (by exact idx0) rfl rfl) rfl rfl rfl ?_
              refine WL_is (X_eql_t rfl rfl rfl (by omega)) rfl rfl rfl ?_
              refine WL_is (X_move rfl rfl) rfl rfl rfl ?_
              refine WL_is (X_fieldAddr rfl rfl rfl (by simp only [Nat.zero_add] <;> rfl)) rfl rfl rfl ?_
              refine WL_is (X_load1 rfl rfl (by exact idx1) rfl rfl) rfl rfl rfl ?_
              refine WL_is (X_fieldAddr rfl rfl rfl (by simp only [Nat.zero_add] <;> rfl)) rfl rfl rfl ?_
              refine WL_is (X_load1 rfl rfl (by exact idx0) rfl rfl) rfl rfl rfl ?_
              refine WL_is (X_eql_t rfl rfl rfl (by omega)) rfl rfl rfl ?_
              refine WL_is (X_pick_t rfl rfl rfl) rfl rfl rfl ?_
              refine WL_is (X_move rfl rfl) rfl rfl rfl ?_
              refine WL_is (X_fieldAddr rfl rfl rfl (by simp only [Nat.zero_add] <;> rfl)) rfl rfl rfl ?_
              refine WL_is (X_load1 rfl rfl (by exact idx1) rfl rfl) rfl rfl rfl ?_
              refine WL_is (X_fieldAddr rfl rfl rfl (by simp only [Nat.zero_add] <;> rfl)) rfl rfl rfl ?_
              refine WL_is (X_load1 rfl rfl (by exact idx0) rfl rfl) rfl rfl rfl ?_
              refine WL_is (X_eql_t rfl rfl rfl (by omega)) rfl rfl rfl ?_
              refine WL_is (X_pick_t rfl rfl rfl) rfl rfl rfl ?_
              refine WL_is (X_move rfl rfl) rfl rfl rfl ?_
              refine WL_is (X_fieldAddr rfl rfl rfl (by simp only [Nat.zero_add] <;> rfl)) rfl rfl rfl ?_
              refine WL_is (X_load1 rfl rfl (by exact idx1) rfl rfl) rfl rfl rfl ?_
              refine WL_is (X_fieldAddr rfl rfl rfl (by simp only [Nat.zero_add] <;> rfl)) rfl rfl rfl ?_
              refine WL_is (X_load1 rfl rfl (by exact idx0) rfl rfl) rfl rfl rfl ?_
              refine WL_is (X_eqB_t rfl rfl rfl rfl (by assumption)) rfl rfl rfl ?_
              refine WL_is (X_pick_t rfl rfl rfl) rfl rfl rfl ?_
              refine WL_is (X_move rfl rfl) rfl rfl rfl ?_
              refine WL_is (X_fieldAddr rfl rfl rfl (by simp only [Nat.zero_add] <;> rfl)) rfl rfl rfl ?_
              refine WL_is (X_load1 rfl rfl (by exact idx1) rfl rfl) rfl rfl rfl ?_
              refine WL_is (X_fieldAddr rfl rfl rfl (by simp only [Nat.zero_add] <;> rfl)) rfl rfl rfl ?_
              refine WL_is (X_load1 rfl rfl (by exact idx0) rfl rfl) rfl rfl rfl ?_
              refine WL_is (X_eql_t rfl rfl rfl (by omega)) rfl rfl rfl ?_
              refine WL_is (X_pick_t rfl rfl rfl) rfl rfl rfl ?_
              refine WL_is (X_move rfl rfl) rfl rfl rfl ?_
              refine WL_is (X_fieldAddr rfl rfl rfl (by simp only [Nat.zero_add] <;> rfl)) rfl rfl rfl ?_
              refine WL_is (X_load1 rfl rfl (by exact idx1) rfl rfl) rfl rfl rfl ?_
              refine WL_is (X_fieldAddr rfl rfl rfl (by simp only [Nat.zero_add] <;> rfl)) rfl rfl rfl ?_
              refine WL_is (X_load1 rfl rfl (by exact idx0) rfl rfl) rfl rfl rfl ?_
              refine WL_is (X_callv rfl rfl rfl Try.func34 rfl (by assumption)) rfl rfl rfl ?_
              refine WL_is (X_pick_t rfl rfl rfl) rfl rfl rfl ?_
              refine WL_is (X_move rfl rfl) rfl rfl rfl ?_
              refine WL_is (X_fieldAddr rfl rfl rfl (by simp only [Nat.zero_add] <;> rfl)) rfl rfl rfl ?_
              refine WL_is (X_load1 rfl rfl (by exact idx1) rfl rfl) rfl rfl rfl ?_
              refine WL_is (X_fieldAddr rfl rfl rfl (by simp only [Nat.zero_add] <;> rfl)) rfl rfl rfl ?_
              refine WL_is (X_load1 rfl rfl (by exact idx0) rfl rfl) rfl rfl rfl ?_
              refine WL_is (X_callv rfl rfl rfl Try.func34 rfl (by assumption)) rfl rfl rfl ?_
              refine WL_is (X_pick_t rfl rfl rfl) rfl rfl rfl ?_
              refine WL_is (X_assign rfl rfl) rfl rfl rfl ?_
              (repeat (first | refine WL_nil ?_ | refine Then_normal ?_ | refine W_ret ?_))
              refine Body_end rfl rfl rfl (SubR.none _) ?_
              subst h1 h7 h3 h4 h5 h6
              by_cases h2 : gs = gs2
              · subst h2; simp
              · simp [h2]
            · rw [decide_eq_false h1] at c1
              (repeat (first | refine W_seq ?_))
              skip
              refine W_region rfl ?_
              (refine WL_box rfl rfl rfl rfl rfl rfl ?_; intro b_)
              (refine WL_box rfl rfl rfl rfl rfl rfl ?_; intro b_)
              refine WL_is (X_assign rfl rfl) rfl rfl rfl ?_
              (repeat (first | refine WL_nil ?_ | refine Then_normal ?_ | refine W_seq ?_))
              skip
              refine W_region rfl ?_
              refine WL_is (X_fieldAddr rfl rfl rfl (by simp only [Nat.zero_add] <;> rfl)) rfl rfl rfl ?_
              refine WL_is (X_load1 rfl rfl (by exact idx1) rfl rfl) rfl rfl rfl ?_
              refine WL_is (X_fieldAddr rfl rfl rfl (by simp only [Nat.zero_add] <;> rfl)) rfl rfl rfl ?_
              refine WL_is (X_load1 rfl rfl (by exact idx0) rfl rfl) rfl rfl rfl ?_
              refine WL_is (X_eql_t rfl rfl rfl (by omega)) rfl rfl rfl ?_
              refine WL_is (X_move rfl rfl) rfl rfl rfl ?_
              refine WL_is (X_fieldAddr rfl rfl rfl (by simp only [Nat.zero_add] <;> rfl)) rfl rfl rfl ?_
              refine WL_is (X_load1 rfl rfl (by exact idx1) rfl rfl) rfl rfl rfl ?_
              refine WL_is (X_fieldAddr rfl rfl rfl (by simp only [Nat.zero_add] <;> rfl)) rfl rfl rfl ?_
              refine WL_is (X_load1 rfl rfl (by exact idx0) rfl rfl) rfl rfl rfl ?_
              refine WL_is (X_eql_t rfl rfl rfl (by omega)) rfl rfl rfl ?_
              refine WL_is (X_pick_t rfl rfl rfl) rfl rfl rfl ?_
              refine WL_is (X_move rfl rfl) rfl rfl rfl ?_
              refine WL_is (X_fieldAddr rfl rfl rfl (by simp only [Nat.zero_add] <;> rfl)) rfl rfl rfl ?_
              refine WL_is (X_load1 rfl rfl (by exact idx1) rfl rfl) rfl rfl rfl ?_
              refine WL_is (X_fieldAddr rfl rfl rfl (by simp only [Nat.zero_add] <;> rfl)) rfl rfl rfl ?_
              refine WL_is (X_load1 rfl rfl (by exact idx0) rfl rfl) rfl rfl rfl ?_
              refine WL_is (X_eql_t rfl rfl rfl (by omega)) rfl rfl rfl ?_
              refine WL_is (X_pick_t rfl rfl rfl) rfl rfl rfl ?_
              refine WL_is (X_move rfl rfl) rfl rfl rfl ?_
              refine WL_is (X_fieldAddr rfl rfl rfl (by simp only [Nat.zero_add] <;> rfl)) rfl rfl rfl ?_
              refine WL_is (X_load1 rfl rfl (by exact idx1) rfl rfl) rfl rfl rfl ?_
              refine WL_is (X_fieldAddr rfl rfl rfl (by simp only [Nat.zero_add] <;> rfl)) rfl rfl rfl ?_
              refine WL_is (X_load1 rfl rfl (by exact idx0) rfl rfl) rfl rfl rfl ?_
              refine WL_is (X_eqB_t rfl rfl rfl rfl (by assumption)) rfl rfl rfl ?_
              refine WL_is (X_pick_t rfl rfl rfl) rfl rfl rfl ?_
              refine WL_is (X_move rfl rfl) rfl rfl rfl ?_
              refine WL_is (X_fieldAddr rfl rfl rfl (by simp only [Nat.zero_add] <;> rfl)) rfl rfl rfl ?_
              refine WL_is (X_load1 rfl rfl (by exact idx1) rfl rfl) rfl rfl rfl ?_
              refine WL_is (X_fieldAddr rfl rfl rfl (by simp only [Nat.zero_add] <;> rfl)) rfl rfl rfl ?_
              refine WL_is (X_load1 rfl rfl (by exact idx0) rfl rfl) rfl rfl rfl ?_
              refine WL_is (X_eql_t rfl rfl rfl (by omega)) rfl rfl rfl ?_
              refine WL_is (X_pick_t rfl rfl rfl) rfl rfl rfl ?_
              refine WL_is (X_move rfl rfl) rfl rfl rfl ?_
              refine WL_is (X_fieldAddr rfl rfl rfl (by simp only [Nat.zero_add] <;> rfl)) rfl rfl rfl ?_
              refine WL_is (X_load1 rfl rfl (by exact idx1) rfl rfl) rfl rfl rfl ?_
              refine WL_is (X_fieldAddr rfl rfl rfl (by simp only [Nat.zero_add] <;> rfl)) rfl rfl rfl ?_
              refine WL_is (X_load1 rfl rfl (by exact idx0) rfl rfl) rfl rfl rfl ?_
              refine WL_is (X_callv rfl rfl rfl Try.func34 rfl (by assumption)) rfl rfl rfl ?_
              refine WL_is (X_pick_t rfl rfl rfl) rfl rfl rfl ?_
              refine WL_is (X_move rfl rfl) rfl rfl rfl ?_
              refine WL_off rfl rfl rfl ?_
              refine WL_off rfl rfl rfl ?_
              refine WL_off rfl rfl rfl ?_
              refine WL_off rfl rfl rfl ?_
              refine WL_off rfl rfl rfl ?_
              refine WL_is (X_pick_f rfl rfl rfl) rfl rfl rfl ?_
              refine WL_is (X_assign rfl rfl) rfl rfl rfl ?_
              (repeat (first | refine WL_nil ?_ | refine Then_normal ?_ | refine W_ret ?_))
              refine Body_end rfl rfl rfl (SubR.none _) ?_
              simp [h1]
          · (repeat (first | refine W_seq ?_))
            skip
            refine W_region rfl ?_
            (refine WL_box rfl rfl rfl rfl rfl rfl ?_; intro b_)
            (refine WL_box rfl rfl rfl rfl rfl rfl ?_; intro b_)
            refine WL_is (X_assign rfl rfl) rfl rfl rfl ?_
            (repeat (first | refine WL_nil ?_ | refine Then_normal ?_ | refine W_seq ?_))
            skip
            refine W_region rfl ?_
            refine WL_is (X_fieldAddr rfl rfl rfl (by simp only [Nat.zero_add] <;> rfl)) rfl rfl rfl ?_
            refine WL_is (X_load1 rfl rfl (by exact idx1) rfl rfl) rfl rfl rfl ?_
            refine WL_is (X_fieldAddr rfl rfl rfl (by simp only [Nat.zero_add] <;> rfl)) rfl rfl rfl ?_
            refine WL_is (X_load1 rfl rfl (by exact idx0) rfl rfl) rfl rfl rfl ?_
            refine WL_is (X_eql_t rfl rfl rfl (by omega)) rfl rfl rfl ?_
            refine WL_is (X_move rfl rfl) rfl rfl rfl ?_
            refine WL_is (X_fieldAddr rfl rfl rfl (by simp only [Nat.zero_add] <;> rfl)) rfl rfl rfl ?_
            refine WL_is (X_load1 rfl rfl (by exact idx1) rfl rfl) rfl rfl rfl ?_
            refine WL_is (X_fieldAddr rfl rfl rfl (by simp only [Nat.zero_add] <;> rfl)) rfl rfl rfl ?_
            refine WL_is (X_load1 rfl rfl (by exact idx0) rfl rfl) rfl rfl rfl ?_
            refine WL_is (X_eql_t rfl rfl rfl (by omega)) rfl rfl rfl ?_
            refine WL_is (X_pick_t rfl rfl rfl) rfl rfl rfl ?_
            refine WL_is (X_move rfl rfl) rfl rfl rfl ?_
            refine WL_is (X_fieldAddr rfl rfl rfl (by simp only [Nat.zero_add] <;> rfl)) rfl rfl rfl ?_
            refine WL_is (X_load1 rfl rfl (by exact idx1) rfl rfl) rfl rfl rfl ?_
            refine WL_is (X_fieldAddr rfl rfl rfl (by simp only [Nat.zero_add] <;> rfl)) rfl rfl rfl ?_
            refine WL_is (X_load1 rfl rfl (by exact idx0) rfl rfl) rfl rfl rfl ?_
            refine WL_is (X_eql_t rfl rfl rfl (by omega)) rfl rfl rfl ?_
            refine WL_is (X_pick_t rfl rfl rfl) rfl rfl rfl ?_
            refine WL_is (X_move rfl rfl) rfl rfl rfl ?_
            refine WL_is (X_fieldAddr rfl rfl rfl (by simp only [Nat.zero_add] <;> rfl)) rfl rfl rfl ?_
            refine WL_is (X_load1 rfl rfl (by exact idx1) rfl rfl) rfl rfl rfl ?_
            refine WL_is (X_fieldAddr rfl rfl rfl (by simp only [Nat.zero_add] <;> rfl)) rfl rfl rfl ?_
            refine WL_is (X_load1 rfl rfl (by exact idx0) rfl rfl) rfl rfl rfl ?_
            refine WL_is (X_eqB_t rfl rfl rfl rfl (by assumption)) rfl rfl rfl ?_
            refine WL_is (X_pick_t rfl rfl rfl) rfl rfl rfl ?_
            refine WL_is (X_move rfl rfl) rfl rfl rfl ?_
            refine WL_is (X_fieldAddr rfl rfl rfl (by simp only [Nat.zero_add] <;> rfl)) rfl rfl rfl ?_
            refine WL_is (X_load1 rfl rfl (by exact idx1) rfl rfl) rfl rfl rfl ?_
            refine WL_is (X_fieldAddr rfl rfl rfl (by simp only [Nat.zero_add] <;> rfl)) rfl rfl rfl ?_
            refine WL_is (X_load1 rfl rfl (by exact idx0) rfl rfl) rfl rfl rfl ?_
            refine WL_is (X_eql_f rfl rfl rfl (by omega)) rfl rfl rfl ?_
            refine WL_is (X_pick_t rfl rfl rfl) rfl rfl rfl ?_
            refine WL_is (X_move rfl rfl) rfl rfl rfl ?_
            refine WL_off rfl rfl rfl ?_
            refine WL_off rfl rfl rfl ?_
            refine WL_off rfl rfl rfl ?_
            refine WL_off rfl rfl rfl ?_
            refine WL_off rfl rfl rfl ?_
            refine WL_is (X_pick_f rfl rfl rfl) rfl rfl rfl ?_
            refine WL_is (X_move rfl rfl) rfl rfl rfl ?_
            refine WL_off rfl rfl rfl ?_
            refine WL_off rfl rfl rfl ?_
            refine WL_off rfl rfl rfl ?_
            refine WL_off rfl rfl rfl ?_
            refine WL_off rfl rfl rfl ?_
            refine WL_is (X_pick_f rfl rfl rfl) rfl rfl rfl ?_
            refine WL_is (X_assign rfl rfl) rfl rfl rfl ?_
            (repeat (first | refine WL_nil ?_ | refine Then_normal ?_ | refine W_ret ?_))
            refine Body_end rfl rfl rfl (SubR.none _) ?_
            simp [h7]
        · (repeat (first | refine W_seq ?_))
          skip
          refine W_region rfl ?_
          (refine WL_box rfl rfl rfl rfl rfl rfl ?_; intro b_)
          (refine WL_box rfl rfl rfl rfl rfl rfl ?_; intro b_)
          refine WL_is (X_assign rfl rfl) rfl rfl rfl ?_
          (repeat (first | refine WL_nil ?_ | refine Then_normal ?_ | refine W_seq ?_))
          skip
          refine W_region rfl ?_
          refine WL_is (X_fieldAddr rfl rfl rfl (by simp only [Nat.zero_add] <;> rfl)) rfl rfl rfl ?_
          refine WL_is (X_load1 rfl rfl (by exact idx1) rfl rfl) rfl rfl rfl ?_
          refine WL_is (X_fieldAddr rfl rfl rfl (by simp only [Nat.zero_add] <;> rfl)) rfl rfl rfl ?_
          refine WL_is (X_load1 rfl rfl (by exact idx0) rfl rfl) rfl rfl rfl ?_
          refine WL_is (X_eql_t rfl rfl rfl (by omega)) rfl rfl rfl ?_
          refine WL_is (X_move rfl rfl) rfl rfl rfl ?_
          refine WL_is (X_fieldAddr rfl rfl rfl (by simp only [Nat.zero_add] <;> rfl)) rfl rfl rfl ?_
          refine WL_is (X_load1 rfl rfl (by exact idx1) rfl rfl) rfl rfl rfl ?_
          refine WL_is (X_fieldAddr rfl rfl rfl (by simp only [Nat.zero_add] <;> rfl)) rfl rfl rfl ?_
          refine WL_is (X_load1 rfl rfl (by exact idx0) rfl rfl) rfl rfl rfl ?_
          refine WL_is (X_eql_t rfl rfl rfl (by omega)) rfl rfl rfl ?_
          refine WL_is (X_pick_t rfl rfl rfl) rfl rfl rfl ?_
          refine WL_is (X_move rfl rfl) rfl rfl rfl ?_
          refine WL_is (X_fieldAddr rfl rfl rfl (by simp only [Nat.zero_add] <;> rfl)) rfl rfl rfl ?_
          refine WL_is (X_load1 rfl rfl (by exact idx1) rfl rfl) rfl rfl rfl ?_
          refine WL_is (X_fieldAddr rfl rfl rfl (by simp only [Nat.zero_add] <;> rfl)) rfl rfl rfl ?_
          refine WL_is (X_load1 rfl rfl (by exact idx0) rfl rfl) rfl rfl rfl ?_
          refine WL_is (X_eql_t rfl rfl rfl (by omega)) rfl rfl rfl ?_
          refine WL_is (X_pick_t rfl rfl rfl) rfl rfl rfl ?_
          refine WL_is (X_move rfl rfl) rfl rfl rfl ?_
          refine WL_is (X_fieldAddr rfl rfl rfl (by simp only [Nat.zero_add] <;> rfl)) rfl rfl rfl ?_
          refine WL_is (X_load1 rfl rfl (by exact idx1) rfl rfl) rfl rfl rfl ?_
          refine WL_is (X_fieldAddr rfl rfl rfl (by simp only [Nat.zero_add] <;> rfl)) rfl rfl rfl ?_
          refine WL_is (X_load1 rfl rfl (by exact idx0) rfl rfl) rfl rfl rfl ?_
          refine WL_is (X_eqB_f rfl rfl rfl rfl (by assumption)) rfl rfl rfl ?_
          refine WL_is (X_pick_t rfl rfl rfl) rfl rfl rfl ?_
          refine WL_is (X_move rfl rfl) rfl rfl rfl ?_
          refine WL_off rfl rfl rfl ?_
          refine WL_off rfl rfl rfl ?_
          refine WL_off rfl rfl rfl ?_
          refine WL_off rfl rfl rfl ?_
          refine WL_off rfl rfl rfl ?_
          refine WL_is (X_pick_f rfl rfl rfl) rfl rfl rfl ?_
          refine WL_is (X_move rfl rfl) rfl rfl rfl ?_
          refine WL_off rfl rfl rfl ?_
          refine WL_off rfl rfl rfl ?_
          refine WL_off rfl rfl rfl ?_
          refine WL_off rfl rfl rfl ?_
          refine WL_off rfl rfl rfl ?_
          refine WL_is (X_pick_f rfl rfl rfl) rfl rfl rfl ?_
          refine WL_is (X_move rfl rfl) rfl rfl rfl ?_
          refine WL_off rfl rfl rfl ?_
          refine WL_off rfl rfl rfl ?_
          refine WL_off rfl rfl rfl ?_
          refine WL_off rfl rfl rfl ?_
          refine WL_off rfl rfl rfl ?_
          refine WL_is (X_pick_f rfl rfl rfl) rfl rfl rfl ?_
          refine WL_is (X_assign rfl rfl) rfl rfl rfl ?_
          (repeat (first | refine WL_nil ?_ | refine Then_normal ?_ | refine W_ret ?_))
          refine Body_end rfl rfl rfl (SubR.none _) ?_
          simp [h6]
      · (repeat (first | refine W_seq ?_))
        skip
        refine W_region rfl ?_
        (refine WL_box rfl rfl rfl rfl rfl rfl ?_; intro b_)
        (refine WL_box rfl rfl rfl rfl rfl rfl ?_; intro b_)
        refine WL_is (X_assign rfl rfl) rfl rfl rfl ?_
        (repeat (first | refine WL_nil ?_ | refine Then_normal ?_ | refine W_seq ?_))
        skip
        refine W_region rfl ?_
        refine WL_is (X_fieldAddr rfl rfl rfl (by simp only [Nat.zero_add] <;> rfl)) rfl rfl rfl ?_
        refine WL_is (X_load1 rfl rfl (by exact idx1) rfl rfl) rfl rfl rfl ?_
        refine WL_is (X_fieldAddr rfl rfl rfl (by simp only [Nat.zero_add] <;> rfl)) rfl rfl rfl ?_
        refine WL_is (X_load1 rfl rfl (by exact idx0) rfl rfl) rfl rfl rfl ?_
        refine WL_is (X_eql_t rfl rfl rfl (by omega)) rfl rfl rfl ?_
        refine WL_is (X_move rfl rfl) rfl rfl rfl ?_
        refine WL_is (X_fieldAddr rfl rfl rfl (by simp only [Nat.zero_add] <;> rfl)) rfl rfl rfl ?_
        refine WL_is (X_load1 rfl rfl (by exact idx1) rfl rfl) rfl rfl rfl ?_
        refine WL_is (X_fieldAddr rfl rfl rfl (by simp only [Nat.zero_add] <;> rfl)) rfl rfl rfl ?_
        refine WL_is (X_load1 rfl rfl (by exact idx0) rfl rfl) rfl rfl rfl ?_
        refine WL_is (X_eql_t rfl rfl rfl (by omega)) rfl rfl rfl ?_
        refine WL_is (X_pick_t rfl rfl rfl) rfl rfl rfl ?_
        refine WL_is (X_move rfl rfl) rfl rfl rfl ?_
        refine WL_is (X_fieldAddr rfl rfl rfl (by simp only [Nat.zero_add] <;> rfl)) rfl rfl rfl ?_
        refine WL_is (X_load1 rfl rfl (by exact idx1) rfl rfl) rfl rfl rfl ?_
        refine WL_is (X_fieldAddr rfl rfl rfl (by simp only [Nat.zero_add] <;> rfl)) rfl rfl rfl ?_
        refine WL_is (X_load1 rfl rfl (by exact idx0) rfl rfl) rfl rfl rfl ?_
        refine WL_is (X_eql_f rfl rfl rfl (by omega)) rfl rfl rfl ?_
        refine WL_is (X_pick_t rfl rfl rfl) rfl rfl rfl ?_
        refine WL_is (X_move rfl rfl) rfl rfl rfl ?_
        refine WL_off rfl rfl rfl ?_
        refine WL_off rfl rfl rfl ?_
        refine WL_off rfl rfl rfl ?_
        refine WL_off rfl rfl rfl ?_
        refine WL_off rfl rfl rfl ?_
        refine WL_is (X_pick_f rfl rfl rfl) rfl rfl rfl ?_
        refine WL_is (X_move rfl rfl) rfl rfl rfl ?_
        refine WL_off rfl rfl rfl ?_
        refine WL_off rfl rfl rfl ?_
        refine WL_off rfl rfl rfl ?_
        refine WL_off rfl rfl rfl ?_
        refine WL_off rfl rfl rfl ?_
        refine WL_is (X_pick_f rfl rfl rfl) rfl rfl rfl ?_
        refine WL_is (X_move rfl rfl) rfl rfl rfl ?_
        refine WL_off rfl rfl rfl ?_
        refine WL_off rfl rfl rfl ?_
        refine WL_off rfl rfl rfl ?_
        refine WL_off rfl rfl rfl ?_
        refine WL_off rfl rfl rfl ?_
        refine WL_is (X_pick_f rfl rfl rfl) rfl rfl rfl ?_
        refine WL_is (X_move rfl rfl) rfl rfl rfl ?_
        refine WL_off rfl rfl rfl ?_
        refine WL_off rfl rfl rfl ?_
        refine WL_off rfl rfl rfl ?_
        refine WL_off rfl rfl rfl ?_
        refine WL_off rfl rfl rfl ?_
        refine WL_is (X_pick_f rfl rfl rfl) rfl rfl rfl ?_
        refine WL_is (X_assign rfl rfl) rfl rfl rfl ?_
        (repeat (first | refine WL_nil ?_ | refine Then_normal ?_ | refine W_ret ?_))
        refine Body_end rfl rfl rfl (SubR.none _) ?_
        simp [h5]
    · (repeat (first | refine W_seq ?_))
      skip
      refine W_region rfl ?_
      (refine WL_box rfl rfl rfl rfl rfl rfl ?_; intro b_)
      (refine WL_box rfl rfl rfl rfl rfl rfl ?_; intro b_)
      refine WL_is (X_assign rfl rfl) rfl rfl rfl ?_
      (repeat (first | refine WL_nil ?_ | refine Then_normal ?_ | refine W_seq ?_))
      skip
      refine W_region rfl ?_
      refine WL_is (X_fieldAddr rfl rfl rfl (by simp only [Nat.zero_add] <;> rfl)) rfl rfl rfl ?_
      refine WL_is (X_load1 rfl rfl (by exact idx1) rfl rfl) rfl rfl rfl ?_
      refine WL_is (X_fieldAddr rfl rfl rfl (by simp only [Nat.zero_add] <;> rfl)) rfl rfl rfl ?_
      refine WL_is (X_load1 rfl rfl (by exact idx0) rfl rfl) rfl rfl rfl ?_
      refine WL_is (X_eql_t rfl rfl rfl (by omega)) rfl rfl rfl ?_
      refine WL_is (X_move rfl rfl) rfl rfl rfl ?_
      refine WL_is (X_fieldAddr rfl rfl rfl (by simp only [Nat.zero_add] <;> rfl)) rfl rfl rfl ?_
      refine WL_is (X_load1 rfl rfl (by exact idx1) rfl rfl) rfl rfl rfl ?_
      refine WL_is (X_fieldAddr rfl rfl rfl (by simp only [Nat.zero_add] <;> rfl)) rfl rfl rfl ?_
      refine WL_is (X_load1 rfl rfl (by exact idx0) rfl rfl) rfl rfl rfl ?_
      refine WL_is (X_eql_f rfl rfl rfl (by omega)) rfl rfl rfl ?_
      refine WL_is (X_pick_t rfl rfl rfl) rfl rfl rfl ?_
      refine WL_is (X_move rfl rfl) rfl rfl rfl ?_
      refine WL_off rfl rfl rfl ?_
      refine WL_off rfl rfl rfl ?_
      refine WL_off rfl rfl rfl ?_
      refine WL_off rfl rfl rfl ?_
      refine WL_off rfl rfl rfl ?_
      refine WL_is (X_pick_f rfl rfl rfl) rfl rfl rfl ?_
      refine WL_is (X_move rfl rfl) rfl rfl rfl ?_
      refine WL_off rfl rfl rfl ?_
      refine WL_off rfl rfl rfl ?_
      refine WL_off rfl rfl rfl ?_
      refine WL_off rfl rfl rfl ?_
      refine WL_off rfl rfl rfl ?_
      refine WL_is (X_pick_f rfl rfl rfl) rfl rfl rfl ?_
      refine WL_is (X_move rfl rfl) rfl rfl rfl ?_
      refine WL_off rfl rfl rfl ?_
      refine WL_off rfl rfl rfl ?_
      refine WL_off rfl rfl rfl ?_
      refine WL_off rfl rfl rfl ?_
      refine WL_off rfl rfl rfl ?_
      refine WL_is (X_pick_f rfl rfl rfl) rfl rfl rfl ?_
      refine WL_is (X_move rfl rfl) rfl rfl rfl ?_
      refine WL_off rfl rfl rfl ?_
      refine WL_off rfl rfl rfl ?_
      refine WL_off rfl rfl rfl ?_
      refine WL_off rfl rfl rfl ?_
      refine WL_off rfl rfl rfl ?_
      refine WL_is (X_pick_f rfl rfl rfl) rfl rfl rfl ?_
      refine WL_is (X_move rfl rfl) rfl rfl rfl ?_
      refine WL_off rfl rfl rfl ?_
      refine WL_off rfl rfl rfl ?_
      refine WL_off rfl rfl rfl ?_
      refine WL_off rfl rfl rfl ?_
      refine WL_off rfl rfl rfl ?_
      refine WL_is (X_pick_f rfl rfl rfl) rfl rfl rfl ?_
      refine WL_is (X_assign rfl rfl) rfl rfl rfl ?_
      (repeat (first | refine WL_nil ?_ | refine Then_normal ?_ | refine W_ret ?_))
      refine Body_end rfl rfl rfl (SubR.none _) ?_
      simp [h4]
  · (repeat (first | refine W_seq ?_))
    skip
    refine W_region rfl ?_
    (refine WL_box rfl rfl rfl rfl rfl rfl ?_; intro b_)
    (refine WL_box rfl rfl rfl rfl rfl rfl ?_; intro b_)
    refine WL_is (X_assign rfl rfl) rfl rfl rfl ?_
    (repeat (first | refine WL_nil ?_ | refine Then_normal ?_ | refine W_seq ?_))
    skip
    refine W_region rfl ?_
    refine WL_is (X_fieldAddr rfl rfl rfl (by simp only [Nat.zero_add] <;> rfl)) rfl rfl rfl ?_
    refine WL_is (X_load1 rfl rfl (by exact idx1) rfl rfl) rfl rfl rfl ?_
    refine WL_is (X_fieldAddr rfl rfl rfl (by simp only [Nat.zero_add] <;> rfl)) rfl rfl rfl ?_
    refine WL_is (X_load1 rfl rfl (by exact idx0) rfl rfl) rfl rfl rfl ?_
    refine WL_is (X_eql_f rfl rfl rfl (by omega)) rfl rfl rfl ?_
    refine WL_is (X_move rfl rfl) rfl rfl rfl ?_
    refine WL_off rfl rfl rfl ?_
    refine WL_off rfl rfl rfl ?_
    refine WL_off rfl rfl rfl ?_
    refine WL_off rfl rfl rfl ?_
    refine WL_off rfl rfl rfl ?_
    refine WL_is (X_pick_f rfl rfl rfl) rfl rfl rfl ?_
    refine WL_is (X_move rfl rfl) rfl rfl rfl ?_
    refine WL_off rfl rfl rfl ?_
    refine WL_off rfl rfl rfl ?_
    refine WL_off rfl rfl rfl ?_
    refine WL_off rfl rfl rfl ?_
    refine WL_off rfl rfl rfl ?_
    refine WL_is (X_pick_f rfl rfl rfl) rfl rfl rfl ?_
    refine WL_is (X_move rfl rfl) rfl rfl rfl ?_
    refine WL_off rfl rfl rfl ?_
    refine WL_off rfl rfl rfl ?_
    refine WL_off rfl rfl rfl ?_
    refine WL_off rfl rfl rfl ?_
    refine WL_off rfl rfl rfl ?_
    refine WL_is (X_pick_f rfl rfl rfl) rfl rfl rfl ?_
    refine WL_is (X_move rfl rfl) rfl rfl rfl ?_
    refine WL_off rfl rfl rfl ?_
    refine WL_off rfl rfl rfl ?_
    refine WL_off rfl rfl rfl ?_
    refine WL_off rfl rfl rfl ?_
    refine WL_off rfl rfl rfl ?_
    refine WL_is (X_pick_f rfl rfl rfl) rfl rfl rfl ?_
    refine WL_is (X_move rfl rfl) rfl rfl rfl ?_
    refine WL_off rfl rfl rfl ?_
    refine WL_off rfl rfl rfl ?_
    refine WL_off rfl rfl rfl ?_
    refine WL_off rfl rfl rfl ?_
    refine WL_off rfl rfl rfl ?_
    refine WL_is (X_pick_f rfl rfl rfl) rfl rfl rfl ?_
    refine WL_is (X_move rfl rfl) rfl rfl rfl ?_
    refine WL_off rfl rfl rfl ?_
    refine WL_off rfl rfl rfl ?_
    refine WL_off rfl rfl rfl ?_
    refine WL_off rfl rfl rfl ?_
    refine WL_off rfl rfl rfl ?_
    refine WL_is (X_pick_f rfl rfl rfl) rfl rfl rfl ?_
    refine WL_is (X_assign rfl rfl) rfl rfl rfl ?_
    (repeat (first | refine WL_nil ?_ | refine Then_normal ?_ | refine W_ret ?_))
    refine Body_end rfl rfl rfl (SubR.none _) ?_
    simp [h3]
/-- Which lists may be. -/
def Acl.p7 (a : Acl) : Bool := allB 4 fun i => match i with | 0 => decide (a.o ≤ 7) | 1 => decide (a.g ≤ 7) | 2 => decide (a.t ≤ 7) | _ => decide (a.m ≤ 7)
def Acl.lone (a : Acl) : Bool := a.hm || (decide (a.m = 0) && decide (a.us.length = 0) && decide (a.gs.length = 0))
def Acl.may (a : Acl) : Bool := a.p7 && namedB a.us && namedB a.gs && a.lone
set_option maxHeartbeats 1000000 in
theorem may_ref (h : PH) (a : Acl) (v : Value) (hv : AclV h v a) (hs : a.small) (hok : a.Ok) : Does Try.prog 32 [v] [] h (Ret fun r _ _ => r = .bool a.may) := by
  have hm0 := hok.m
  unfold u8 at hm0
  obtain ⟨u, g, rfl, hu, hg⟩ := hv
  obtain ⟨o, gg, t, us, gs, hm, m⟩ := a
  obtain ⟨hs1, hs2⟩ := hs
  simp only [aclV] at *
  have c1 := named_ref h us u hu (by omega)
  have c2 := named_ref h gs g hg (by omega)
  refine Does_of_W Try.func32 rfl (n := 52) rfl rfl (by simp only [argE] <;> rfl) ?_
  by_cases h1 : o ≤ 7
  · by_cases h2 : gg ≤ 7
    · by_cases h3 : t ≤ 7
      · by_cases h4 : m ≤ 7
        · cases h5 : namedB us with
          | true =>
            rw [h5] at c1
            cases h6 : namedB gs with
            | true =>
              rw [h6] at c2
              cases hm with
              | true =>
                (repeat (first | refine W_seq ?_))
                skip
                refine W_region rfl ?_
                (refine WL_box rfl rfl rfl rfl rfl rfl ?_; intro b_)
                refine WL_is (X_assign rfl rfl) rfl rfl rfl ?_
                (repeat (first | refine WL_nil ?_ | refine Then_normal ?_ | refine W_seq ?_))
                skip
                refine W_region rfl ?_
                refine WL_is (X_fieldAddr rfl rfl rfl (by simp only [Nat.zero_add] <;> rfl)) rfl rfl rfl ?_
                refine WL_is (X_load1 rfl rfl (by exact idx0) rfl rfl) rfl rfl rfl ?_
                refine WL_is (X_gtr_f rfl rfl rfl (by omega)) rfl rfl rfl ?_
                refine WL_is (X_move rfl rfl) rfl rfl rfl ?_
                refine WL_is (X_fieldAddr rfl rfl rfl (by simp only [Nat.zero_add] <;> rfl)) rfl rfl rfl ?_
                refine WL_is (X_load1 rfl rfl (by exact idx0) rfl rfl) rfl rfl rfl ?_
                refine WL_is (X_gtr_f rfl rfl rfl (by omega)) rfl rfl rfl ?_
                refine WL_is (X_pick_f rfl rfl rfl) rfl rfl rfl ?_
                refine WL_is (X_move rfl rfl) rfl rfl rfl ?_
                refine WL_is (X_fieldAddr rfl rfl rfl (by simp only [Nat.zero_add] <;> rfl)) rfl rfl rfl ?_
                refine WL_is (X_load1 rfl rfl (by exact idx0) rfl rfl) rfl rfl rfl ?_
                refine WL_is (X_gtr_f rfl rfl rfl (by omega)) rfl rfl rfl ?_
                refine WL_is (X_pick_f rfl rfl rfl) rfl rfl rfl ?_
                refine WL_is (X_move rfl rfl) rfl rfl rfl ?_
                refine WL_is (X_fieldAddr rfl rfl rfl (by simp only [Nat.zero_add] <;> rfl)) rfl rfl rfl ?_
                refine WL_is (X_load1 rfl rfl (by exact idx0) rfl rfl) rfl rfl rfl ?_
                refine WL_is (X_gtr_f rfl rfl rfl (by omega)) rfl rfl rfl ?_
                refine WL_is (X_pick_f rfl rfl rfl) rfl rfl rfl ?_
                refine WL_is (X_move rfl rfl) rfl rfl rfl ?_
                refine WL_is (X_fieldAddr rfl rfl rfl (by simp only [Nat.zero_add] <;> rfl)) rfl rfl rfl ?_
                refine WL_is (X_load1 rfl rfl (by exact idx0) rfl rfl) rfl rfl rfl ?_
                refine WL_is (X_callv rfl rfl rfl Try.func42 rfl (by assumption)) rfl rfl rfl ?_
                refine WL_is (X_not rfl rfl) rfl rfl rfl ?_
                refine WL_is (X_pick_f rfl rfl rfl) rfl rfl rfl ?_
                refine WL_is (X_move rfl rfl) rfl rfl rfl ?_
                refine WL_is (X_fieldAddr rfl rfl rfl (by simp only [Nat.zero_add] <;> rfl)) rfl rfl rfl ?_
                refine WL_is (X_load1 rfl rfl (by exact idx0) rfl rfl) rfl rfl rfl ?_
                refine WL_is (X_callv rfl rfl rfl Try.func42 rfl (by assumption)) rfl rfl rfl ?_
                refine WL_is (X_not rfl rfl) rfl rfl rfl ?_
                refine WL_is (X_pick_f rfl rfl rfl) rfl rfl rfl ?_
                (repeat (first | refine WL_nil ?_ | refine Then_normal ?_ | refine W_seq ?_ | refine W_skip ?_ | refine W_false rfl ?_))
                skip
                refine W_region rfl ?_
                refine WL_is (X_fieldAddr rfl rfl rfl (by simp only [Nat.zero_add] <;> rfl)) rfl rfl rfl ?_
                refine WL_is (X_load1 rfl rfl (by exact idx0) rfl rfl) rfl rfl rfl ?_
                refine WL_is (X_move rfl rfl) rfl rfl rfl ?_
                refine WL_off rfl rfl rfl ?_
                refine WL_off rfl rfl rfl ?_
                refine WL_off rfl rfl rfl ?_
                refine WL_off rfl rfl rfl ?_
                refine WL_off rfl rfl rfl ?_
                refine WL_off rfl rfl rfl ?_
                refine WL_off rfl rfl rfl ?_
                refine WL_off rfl rfl rfl ?_
                refine WL_off rfl rfl rfl ?_
                refine WL_off rfl rfl rfl ?_
                refine WL_off rfl rfl rfl ?_
                refine WL_off rfl rfl rfl ?_
                refine WL_off rfl rfl rfl ?_
                refine WL_off rfl rfl rfl ?_
                refine WL_off rfl rfl rfl ?_
                refine WL_is (X_pick_t rfl rfl rfl) rfl rfl rfl ?_
                refine WL_is (X_assign rfl rfl) rfl rfl rfl ?_
                (repeat (first | refine WL_nil ?_ | refine Then_normal ?_ | refine W_ret ?_))
                refine Body_end rfl rfl rfl (SubR.none _) ?_
                simp [Acl.may, Acl.lone, Acl.p7, allB, h1, h2, h3, h4, h5, h6]
              | false =>
                by_cases h7 : m = 0
                · by_cases h8 : us.length = 0
                  · by_cases h9 : gs.length = 0
                    · (repeat (first | refine W_seq ?_))
                      skip
                      refine W_region rfl ?_
                      (refine WL_box rfl rfl rfl rfl rfl rfl ?_; intro b_)
                      refine WL_is (X_assign rfl rfl) rfl rfl rfl ?_
                      (repeat (first | refine WL_nil ?_ | refine Then_normal ?_ | refine W_seq ?_))
                      skip
                      refine W_region rfl ?_
                      refine WL_is (X_fieldAddr rfl rfl rfl (by simp only [Nat.zero_add] <;> rfl)) rfl rfl rfl ?_
                      refine WL_is (X_load1 rfl rfl (by exact idx0) rfl rfl) rfl rfl rfl ?_
                      refine WL_is (X_gtr_f rfl rfl rfl (by omega)) rfl rfl rfl ?_
                      refine WL_is (X_move rfl rfl) rfl rfl rfl ?_
                      refine WL_is (X_fieldAddr rfl rfl rfl (by simp only [Nat.zero_add] <;> rfl)) rfl rfl rfl ?_
                      refine WL_is (X_load1 rfl rfl (by exact idx0) rfl rfl) rfl rfl rfl ?_
                      refine WL_is (X_gtr_f rfl rfl rfl (by omega)) rfl rfl rfl ?_
                      refine WL_is (X_pick_f rfl rfl rfl) rfl rfl rfl ?_
                      refine WL_is (X_move rfl rfl) rfl rfl rfl ?_
                      refine WL_is (X_fieldAddr rfl rfl rfl (by simp only [Nat.zero_add] <;> rfl)) rfl rfl rfl ?_
                      refine WL_is (X_load1 rfl rfl (by exact idx0) rfl rfl) rfl rfl rfl ?_
                      refine WL_is (X_gtr_f rfl rfl rfl (by omega)) rfl rfl rfl ?_
                      refine WL_is (X_pick_f rfl rfl rfl) rfl rfl rfl ?_
                      refine WL_is (X_move rfl rfl) rfl rfl rfl ?_
                      refine WL_is (X_fieldAddr rfl rfl rfl (by simp only [Nat.zero_add] <;> rfl)) rfl rfl rfl ?_
                      refine WL_is (X_load1 rfl rfl (by exact idx0) rfl rfl) rfl rfl rfl ?_
                      refine WL_is (X_gtr_f rfl rfl rfl (by omega)) rfl rfl rfl ?_
                      refine WL_is (X_pick_f rfl rfl rfl) rfl rfl rfl ?_
                      refine WL_is (X_move rfl rfl) rfl rfl rfl ?_
                      refine WL_is (X_fieldAddr rfl rfl rfl (by simp only [Nat.zero_add] <;> rfl)) rfl rfl rfl ?_
                      refine WL_is (X_load1 rfl rfl (by exact idx0) rfl rfl) rfl rfl rfl ?_
                      refine WL_is (X_callv rfl rfl rfl Try.func42 rfl (by assumption)) rfl rfl rfl ?_
                      refine WL_is (X_not rfl rfl) rfl rfl rfl ?_
                      refine WL_is (X_pick_f rfl rfl rfl) rfl rfl rfl ?_
                      refine WL_is (X_move rfl rfl) rfl rfl rfl ?_
                      refine WL_is (X_fieldAddr rfl rfl rfl (by simp only [Nat.zero_add] <;> rfl)) rfl rfl rfl ?_
                      refine WL_is (X_load1 rfl rfl (by exact idx0) rfl rfl) rfl rfl rfl ?_
                      refine WL_is (X_callv rfl rfl rfl Try.func42 rfl (by assumption)) rfl rfl rfl ?_
                      refine WL_is (X_not rfl rfl) rfl rfl rfl ?_
                      refine WL_is (X_pick_f rfl rfl rfl) rfl rfl rfl ?_
                      (repeat (first | refine WL_nil ?_ | refine Then_normal ?_ | refine W_seq ?_ | refine W_skip ?_ | refine W_false rfl ?_))
                      skip
                      refine W_region rfl ?_
                      refine WL_is (X_fieldAddr rfl rfl rfl (by simp only [Nat.zero_add] <;> rfl)) rfl rfl rfl ?_
                      refine WL_is (X_load1 rfl rfl (by exact idx0) rfl rfl) rfl rfl rfl ?_
                      refine WL_is (X_move rfl rfl) rfl rfl rfl ?_
                      refine WL_is (X_fieldAddr rfl rfl rfl (by simp only [Nat.zero_add] <;> rfl)) rfl rfl rfl ?_
                      refine WL_is (X_load1 rfl rfl (by exact idx0) rfl rfl) rfl rfl rfl ?_
                      refine WL_is (X_eql_t rfl rfl rfl (by omega)) rfl rfl rfl ?_
                      refine WL_is (X_move rfl rfl) rfl rfl rfl ?_
                      refine WL_is (X_fieldAddr rfl rfl rfl (by simp only [Nat.zero_add] <;> rfl)) rfl rfl rfl ?_
                      refine WL_is (X_load1 rfl rfl (by exact idx0) rfl rfl) rfl rfl rfl ?_
                      refine WL_is (X_len_sl rfl rfl rfl (by assumption)) rfl rfl rfl ?_
                      refine WL_is (X_eql_t rfl rfl rfl (by omega)) rfl rfl rfl ?_
                      refine WL_is (X_pick_t rfl rfl rfl) rfl rfl rfl ?_
                      refine WL_is (X_move rfl rfl) rfl rfl rfl ?_
                      refine WL_is (X_fieldAddr rfl rfl rfl (by simp only [Nat.zero_add] <;> rfl)) rfl rfl rfl ?_
                      refine WL_is (X_load1 rfl rfl (by exact idx0) rfl rfl) rfl rfl rfl ?_
                      refine WL_is (X_len_sl rfl rfl rfl (by assumption)) rfl rfl rfl ?_
                      refine WL_is (X_eql_t rfl rfl rfl (by omega)) rfl rfl rfl ?_
                      refine WL_is (X_pick_t rfl rfl rfl) rfl rfl rfl ?_
                      refine WL_is (X_pick_f rfl rfl rfl) rfl rfl rfl ?_
                      refine WL_is (X_assign rfl rfl) rfl rfl rfl ?_
                      (repeat (first | refine WL_nil ?_ | refine Then_normal ?_ | refine W_ret ?_))
                      refine Body_end rfl rfl rfl (SubR.none _) ?_
                      simp [Acl.may, Acl.lone, Acl.p7, allB, h1, h2, h3, h5, h6, h7, h8, h9]
                    · (repeat (first | refine W_seq ?_))
                      skip
                      refine W_region rfl ?_
                      (refine WL_box rfl rfl rfl rfl rfl rfl ?_; intro b_)
                      refine WL_is (X_assign rfl rfl) rfl rfl rfl ?_
                      (repeat (first | refine WL_nil ?_ | refine Then_normal ?_ | refine W_seq ?_))
                      skip
                      refine W_region rfl ?_
                      refine WL_is (X_fieldAddr rfl rfl rfl (by simp only [Nat.zero_add] <;> rfl)) rfl rfl rfl ?_
                      refine WL_is (X_load1 rfl rfl (by exact idx0) rfl rfl) rfl rfl rfl ?_
                      refine WL_is (X_gtr_f rfl rfl rfl (by omega)) rfl rfl rfl ?_
                      refine WL_is (X_move rfl rfl) rfl rfl rfl ?_
                      refine WL_is (X_fieldAddr rfl rfl rfl (by simp only [Nat.zero_add] <;> rfl)) rfl rfl rfl ?_
                      refine WL_is (X_load1 rfl rfl (by exact idx0) rfl rfl) rfl rfl rfl ?_
                      refine WL_is (X_gtr_f rfl rfl rfl (by omega)) rfl rfl rfl ?_
                      refine WL_is (X_pick_f rfl rfl rfl) rfl rfl rfl ?_
                      refine WL_is (X_move rfl rfl) rfl rfl rfl ?_
                      refine WL_is (X_fieldAddr rfl rfl rfl (by simp only [Nat.zero_add] <;> rfl)) rfl rfl rfl ?_
                      refine WL_is (X_load1 rfl rfl (by exact idx0) rfl rfl) rfl rfl rfl ?_
                      refine WL_is (X_gtr_f rfl rfl rfl (by omega)) rfl rfl rfl ?_
                      refine WL_is (X_pick_f rfl rfl rfl) rfl rfl rfl ?_
                      refine WL_is (X_move rfl rfl) rfl rfl rfl ?_
                      refine WL_is (X_fieldAddr rfl rfl rfl (by simp only [Nat.zero_add] <;> rfl)) rfl rfl rfl ?_
                      refine WL_is (X_load1 rfl rfl (by exact idx0) rfl rfl) rfl rfl rfl ?_
                      refine WL_is (X_gtr_f rfl rfl rfl (by omega)) rfl rfl rfl ?_
                      refine WL_is (X_pick_f rfl rfl rfl) rfl rfl rfl ?_
                      refine WL_is (X_move rfl rfl) rfl rfl rfl ?_
                      refine WL_is (X_fieldAddr rfl rfl rfl (by simp only [Nat.zero_add] <;> rfl)) rfl rfl rfl ?_
                      refine WL_is (X_load1 rfl rfl (by exact idx0) rfl rfl) rfl rfl rfl ?_
                      refine WL_is (X_callv rfl rfl rfl Try.func42 rfl (by assumption)) rfl rfl rfl ?_
                      refine WL_is (X_not rfl rfl) rfl rfl rfl ?_
                      refine WL_is (X_pick_f rfl rfl rfl) rfl rfl rfl ?_
                      refine WL_is (X_move rfl rfl) rfl rfl rfl ?_
                      refine WL_is (X_fieldAddr rfl rfl rfl (by simp only [Nat.zero_add] <;> rfl)) rfl rfl rfl ?_
                      refine WL_is (X_load1 rfl rfl (by exact idx0) rfl rfl) rfl rfl rfl ?_
                      refine WL_is (X_callv rfl rfl rfl Try.func42 rfl (by assumption)) rfl rfl rfl ?_
                      refine WL_is (X_not rfl rfl) rfl rfl rfl ?_
                      refine WL_is (X_pick_f rfl rfl rfl) rfl rfl rfl ?_
                      (repeat (first | refine WL_nil ?_ | refine Then_normal ?_ | refine W_seq ?_ | refine W_skip ?_ | refine W_false rfl ?_))
                      skip
                      refine W_region rfl ?_
                      refine WL_is (X_fieldAddr rfl rfl rfl (by simp only [Nat.zero_add] <;> rfl)) rfl rfl rfl ?_
                      refine WL_is (X_load1 rfl rfl (by exact idx0) rfl rfl) rfl rfl rfl ?_
                      refine WL_is (X_move rfl rfl) rfl rfl rfl ?_
                      refine WL_is (X_fieldAddr rfl rfl rfl (by simp only [Nat.zero_add] <;> rfl)) rfl rfl rfl ?_
                      refine WL_is (X_load1 rfl rfl (by exact idx0) rfl rfl) rfl rfl rfl ?_
                      refine WL_is (X_eql_t rfl rfl rfl (by omega)) rfl rfl rfl ?_
                      refine WL_is (X_move rfl rfl) rfl rfl rfl ?_
                      refine WL_is (X_fieldAddr rfl rfl rfl (by simp only [Nat.zero_add] <;> rfl)) rfl rfl rfl ?_
                      refine WL_is (X_load1 rfl rfl (by exact idx0) rfl rfl) rfl rfl rfl ?_
                      refine WL_is (X_len_sl rfl rfl rfl (by assumption)) rfl rfl rfl ?_
                      refine WL_is (X_eql_t rfl rfl rfl (by omega)) rfl rfl rfl ?_
                      refine WL_is (X_pick_t rfl rfl rfl) rfl rfl rfl ?_
                      refine WL_is (X_move rfl rfl) rfl rfl rfl ?_
                      refine WL_is (X_fieldAddr rfl rfl rfl (by simp only [Nat.zero_add] <;> rfl)) rfl rfl rfl ?_
                      refine WL_is (X_load1 rfl rfl (by exact idx0) rfl rfl) rfl rfl rfl ?_
                      refine WL_is (X_len_sl rfl rfl rfl (by assumption)) rfl rfl rfl ?_
                      refine WL_is (X_eql_f rfl rfl rfl (by omega)) rfl rfl rfl ?_
                      refine WL_is (X_pick_t rfl rfl rfl) rfl rfl rfl ?_
                      refine WL_is (X_pick_f rfl rfl rfl) rfl rfl rfl ?_
                      refine WL_is (X_assign rfl rfl) rfl rfl rfl ?_
                      (repeat (first | refine WL_nil ?_ | refine Then_normal ?_ | refine W_ret ?_))
                      refine Body_end rfl rfl rfl (SubR.none _) ?_
                      simp [Acl.may, Acl.lone, Acl.p7, allB, h9]
                  · (repeat (first | refine W_seq ?_))
                    skip
                    refine W_region rfl ?_
                    (refine WL_box rfl rfl rfl rfl rfl rfl ?_; intro b_)
                    refine WL_is (X_assign rfl rfl) rfl rfl rfl ?_
                    (repeat (first | refine WL_nil ?_ | refine Then_normal ?_ | refine W_seq ?_))
                    skip
                    refine W_region rfl ?_
                    refine WL_is (X_fieldAddr rfl rfl rfl (by simp only [Nat.zero_add] <;> rfl)) rfl rfl rfl ?_
                    refine WL_is (X_load1 rfl rfl (by exact idx0) rfl rfl) rfl rfl rfl ?_
                    refine WL_is (X_gtr_f rfl rfl rfl (by omega)) rfl rfl rfl ?_
                    refine WL_is (X_move rfl rfl) rfl rfl rfl ?_
                    refine WL_is (X_fieldAddr rfl rfl rfl (by simp only [Nat.zero_add] <;> rfl)) rfl rfl rfl ?_
                    refine WL_is (X_load1 rfl rfl (by exact idx0) rfl rfl) rfl rfl rfl ?_
                    refine WL_is (X_gtr_f rfl rfl rfl (by omega)) rfl rfl rfl ?_
                    refine WL_is (X_pick_f rfl rfl rfl) rfl rfl rfl ?_
                    refine WL_is (X_move rfl rfl) rfl rfl rfl ?_
                    refine WL_is (X_fieldAddr rfl rfl rfl (by simp only [Nat.zero_add] <;> rfl)) rfl rfl rfl ?_
                    refine WL_is (X_load1 rfl rfl (by exact idx0) rfl rfl) rfl rfl rfl ?_
                    refine WL_is (X_gtr_f rfl rfl rfl (by omega)) rfl rfl rfl ?_
                    refine WL_is (X_pick_f rfl rfl rfl) rfl rfl rfl ?_
                    refine WL_is (X_move rfl rfl) rfl rfl rfl ?_
                    refine WL_is (X_fieldAddr rfl rfl rfl (by simp only [Nat.zero_add] <;> rfl)) rfl rfl rfl ?_
                    refine WL_is (X_load1 rfl rfl (by exact idx0) rfl rfl) rfl rfl rfl ?_
                    refine WL_is (X_gtr_f rfl rfl rfl (by omega)) rfl rfl rfl ?_
                    refine WL_is (X_pick_f rfl rfl rfl) rfl rfl rfl ?_
                    refine WL_is (X_move rfl rfl) rfl rfl rfl ?_
                    refine WL_is (X_fieldAddr rfl rfl rfl (by simp only [Nat.zero_add] <;> rfl)) rfl rfl rfl ?_
                    refine WL_is (X_load1 rfl rfl (by exact idx0) rfl rfl) rfl rfl rfl ?_
                    refine WL_is (X_callv rfl rfl rfl Try.func42 rfl (by assumption)) rfl rfl rfl ?_
                    refine WL_is (X_not rfl rfl) rfl rfl rfl ?_
                    refine WL_is (X_pick_f rfl rfl rfl) rfl rfl rfl ?_
                    refine WL_is (X_move rfl rfl) rfl rfl rfl ?_
                    refine WL_is (X_fieldAddr rfl rfl rfl (by simp only [Nat.zero_add] <;> rfl)) rfl rfl rfl ?_
                    refine WL_is (X_load1 rfl rfl (by exact idx0) rfl rfl) rfl rfl rfl ?_
                    refine WL_is (X_callv rfl rfl rfl Try.func42 rfl (by assumption)) rfl rfl rfl ?_
                    refine WL_is (X_not rfl rfl) rfl rfl rfl ?_
                    refine WL_is (X_pick_f rfl rfl rfl) rfl rfl rfl ?_
                    (repeat (first | refine WL_nil ?_ | refine Then_normal ?_ | refine W_seq ?_ | refine W_skip ?_ | refine W_false rfl ?_))
                    skip
                    refine W_region rfl ?_
                    refine WL_is (X_fieldAddr rfl rfl rfl (by simp only [Nat.zero_add] <;> rfl)) rfl rfl rfl ?_
                    refine WL_is (X_load1 rfl rfl (by exact idx0) rfl rfl) rfl rfl rfl ?_
                    refine WL_is (X_move rfl rfl) rfl rfl rfl ?_
                    refine WL_is (X_fieldAddr rfl rfl rfl (by simp only [Nat.zero_add] <;> rfl)) rfl rfl rfl ?_
                    refine WL_is (X_load1 rfl rfl (by exact idx0) rfl rfl) rfl rfl rfl ?_
                    refine WL_is (X_eql_t rfl rfl rfl (by omega)) rfl rfl rfl ?_
                    refine WL_is (X_move rfl rfl) rfl rfl rfl ?_
                    refine WL_is (X_fieldAddr rfl rfl rfl (by simp only [Nat.zero_add] <;> rfl)) rfl rfl rfl ?_
                    refine WL_is (X_load1 rfl rfl (by exact idx0) rfl rfl) rfl rfl rfl ?_
                    refine WL_is (X_len_sl rfl rfl rfl (by assumption)) rfl rfl rfl ?_
                    refine WL_is (X_eql_f rfl rfl rfl (by omega)) rfl rfl rfl ?_
                    refine WL_is (X_pick_t rfl rfl rfl) rfl rfl rfl ?_
                    refine WL_is (X_move rfl rfl) rfl rfl rfl ?_
                    refine WL_off rfl rfl rfl ?_
                    refine WL_off rfl rfl rfl ?_
                    refine WL_off rfl rfl rfl ?_
                    refine WL_off rfl rfl rfl ?_
                    refine WL_is (X_pick_f rfl rfl rfl) rfl rfl rfl ?_
                    refine WL_is (X_pick_f rfl rfl rfl) rfl rfl rfl ?_
                    refine WL_is (X_assign rfl rfl) rfl rfl rfl ?_
                    (repeat (first | refine WL_nil ?_ | refine Then_normal ?_ | refine W_ret ?_))
                    refine Body_end rfl rfl rfl (SubR.none _) ?_
                    simp [Acl.may, Acl.lone, Acl.p7, allB, h8]
                · (repeat (first | refine W_seq ?_))
                  skip
                  refine W_region rfl ?_
                  (refine WL_box rfl rfl rfl rfl rfl rfl ?_; intro b_)
                  refine WL_is (X_assign rfl rfl) rfl rfl rfl ?_
                  (repeat (first | refine WL_nil ?_ | refine Then_normal ?_ | refine W_seq ?_))
                  skip
                  refine W_region rfl ?_
                  refine WL_is (X_fieldAddr rfl rfl rfl (by simp only [Nat.zero_add] <;> rfl)) rfl rfl rfl ?_
                  refine WL_is (X_load1 rfl rfl (by exact idx0) rfl rfl) rfl rfl rfl ?_
                  refine WL_is (X_gtr_f rfl rfl rfl (by omega)) rfl rfl rfl ?_
                  refine WL_is (X_move rfl rfl) rfl rfl rfl ?_
                  refine WL_is (X_fieldAddr rfl rfl rfl (by simp only [Nat.zero_add] <;> rfl)) rfl rfl rfl ?_
                  refine WL_is (X_load1 rfl rfl (by exact idx0) rfl rfl) rfl rfl rfl ?_
                  refine WL_is (X_gtr_f rfl rfl rfl (by omega)) rfl rfl rfl ?_
                  refine WL_is (X_pick_f rfl rfl rfl) rfl rfl rfl ?_
                  refine WL_is (X_move rfl rfl) rfl rfl rfl ?_
                  refine WL_is (X_fieldAddr rfl rfl rfl (by simp only [Nat.zero_add] <;> rfl)) rfl rfl rfl ?_
                  refine WL_is (X_load1 rfl rfl (by exact idx0) rfl rfl) rfl rfl rfl ?_
                  refine WL_is (X_gtr_f rfl rfl rfl (by omega)) rfl rfl rfl ?_
                  refine WL_is (X_pick_f rfl rfl rfl) rfl rfl rfl ?_
                  refine WL_is (X_move rfl rfl) rfl rfl rfl ?_
                  refine WL_is (X_fieldAddr rfl rfl rfl (by simp only [Nat.zero_add] <;> rfl)) rfl rfl rfl ?_
                  refine WL_is (X_load1 rfl rfl (by exact idx0) rfl rfl) rfl rfl rfl ?_
                  refine WL_is (X_gtr_f rfl rfl rfl (by omega)) rfl rfl rfl ?_
                  refine WL_is (X_pick_f rfl rfl rfl) rfl rfl rfl ?_
                  refine WL_is (X_move rfl rfl) rfl rfl rfl ?_
                  refine WL_is (X_fieldAddr rfl rfl rfl (by simp only [Nat.zero_add] <;> rfl)) rfl rfl rfl ?_
                  refine WL_is (X_load1 rfl rfl (by exact idx0) rfl rfl) rfl rfl rfl ?_
                  refine WL_is (X_callv rfl rfl rfl Try.func42 rfl (by assumption)) rfl rfl rfl ?_
                  refine WL_is (X_not rfl rfl) rfl rfl rfl ?_
                  refine WL_is (X_pick_f rfl rfl rfl) rfl rfl rfl ?_
                  refine WL_is (X_move rfl rfl) rfl rfl rfl ?_
                  refine WL_is (X_fieldAddr rfl rfl rfl (by simp only [Nat.zero_add] <;> rfl)) rfl rfl rfl ?_
                  refine WL_is (X_load1 rfl rfl (by exact idx0) rfl rfl) rfl rfl rfl ?_
                  refine WL_is (X_callv rfl rfl rfl Try.func42 rfl (by assumption)) rfl rfl rfl ?_
                  refine WL_is (X_not rfl rfl) rfl rfl rfl ?_
                  refine WL_is (X_pick_f rfl rfl rfl) rfl rfl rfl ?_
                  (repeat (first | refine WL_nil ?_ | refine Then_normal ?_ | refine W_seq ?_ | refine W_skip ?_ | refine W_false rfl ?_))
                  skip
                  refine W_region rfl ?_
                  refine WL_is (X_fieldAddr rfl rfl rfl (by simp only [Nat.zero_add] <;> rfl)) rfl rfl rfl ?_
                  refine WL_is (X_load1 rfl rfl (by exact idx0) rfl rfl) rfl rfl rfl ?_
                  refine WL_is (X_move rfl rfl) rfl rfl rfl ?_
                  refine WL_is (X_fieldAddr rfl rfl rfl (by simp only [Nat.zero_add] <;> rfl)) rfl rfl rfl ?_
                  refine WL_is (X_load1 rfl rfl (by exact idx0) rfl rfl) rfl rfl rfl ?_
                  refine WL_is (X_eql_f rfl rfl rfl (by omega)) rfl rfl rfl ?_
                  refine WL_is (X_move rfl rfl) rfl rfl rfl ?_
                  refine WL_off rfl rfl rfl ?_
                  refine WL_off rfl rfl rfl ?_
                  refine WL_off rfl rfl rfl ?_
                  refine WL_off rfl rfl rfl ?_
                  refine WL_is (X_pick_f rfl rfl rfl) rfl rfl rfl ?_
                  refine WL_is (X_move rfl rfl) rfl rfl rfl ?_
                  refine WL_off rfl rfl rfl ?_
                  refine WL_off rfl rfl rfl ?_
                  refine WL_off rfl rfl rfl ?_
                  refine WL_off rfl rfl rfl ?_
                  refine WL_is (X_pick_f rfl rfl rfl) rfl rfl rfl ?_
                  refine WL_is (X_pick_f rfl rfl rfl) rfl rfl rfl ?_
                  refine WL_is (X_assign rfl rfl) rfl rfl rfl ?_
                  (repeat (first | refine WL_nil ?_ | refine Then_normal ?_ | refine W_ret ?_))
                  refine Body_end rfl rfl rfl (SubR.none _) ?_
                  simp [Acl.may, Acl.lone, Acl.p7, allB, h7]
            | false =>
              rw [h6] at c2
              (repeat (first | refine W_seq ?_))
              skip
              refine W_region rfl ?_
              (refine WL_box rfl rfl rfl rfl rfl rfl ?_; intro b_)
              refine WL_is (X_assign rfl rfl) rfl rfl rfl ?_
              (repeat (first | refine WL_nil ?_ | refine Then_normal ?_ | refine W_seq ?_))
              skip
              refine W_region rfl ?_
              refine WL_is (X_fieldAddr rfl rfl rfl (by simp only [Nat.zero_add] <;> rfl)) rfl rfl rfl ?_
              refine WL_is (X_load1 rfl rfl (by exact idx0) rfl rfl) rfl rfl rfl ?_
              refine WL_is (X_gtr_f rfl rfl rfl (by omega)) rfl rfl rfl ?_
              refine WL_is (X_move rfl rfl) rfl rfl rfl ?_
              refine WL_is (X_fieldAddr rfl rfl rfl (by simp only [Nat.zero_add] <;> rfl)) rfl rfl rfl ?_
              refine WL_is (X_load1 rfl rfl (by exact idx0) rfl rfl) rfl rfl rfl ?_
              refine WL_is (X_gtr_f rfl rfl rfl (by omega)) rfl rfl rfl ?_
              refine WL_is (X_pick_f rfl rfl rfl) rfl rfl rfl ?_
              refine WL_is (X_move rfl rfl) rfl rfl rfl ?_
              refine WL_is (X_fieldAddr rfl rfl rfl (by simp only [Nat.zero_add] <;> rfl)) rfl rfl rfl ?_
              refine WL_is (X_load1 rfl rfl (by exact idx0) rfl rfl) rfl rfl rfl ?_
              refine WL_is (X_gtr_f rfl rfl rfl (by omega)) rfl rfl rfl ?_
              refine WL_is (X_pick_f rfl rfl rfl) rfl rfl rfl ?_
              refine WL_is (X_move rfl rfl) rfl rfl rfl ?_
              refine WL_is (X_fieldAddr rfl rfl rfl (by simp only [Nat.zero_add] <;> rfl)) rfl rfl rfl ?_
              refine WL_is (X_load1 rfl rfl (by exact idx0) rfl rfl) rfl rfl rfl ?_
              refine WL_is (X_gtr_f rfl rfl rfl (by omega)) rfl rfl rfl ?_
              refine WL_is (X_pick_f rfl rfl rfl) rfl rfl rfl ?_
              refine WL_is (X_move rfl rfl) rfl rfl rfl ?_
              refine WL_is (X_fieldAddr rfl rfl rfl (by simp only [Nat.zero_add] <;> rfl)) rfl rfl rfl ?_
              refine WL_is (X_load1 rfl rfl (by exact idx0) rfl rfl) rfl rfl rfl ?_
              refine WL_is (X_callv rfl rfl rfl Try.func42 rfl (by assumption)) rfl rfl rfl ?_
              refine WL_is (X_not rfl rfl) rfl rfl rfl ?_
              refine WL_is (X_pick_f rfl rfl rfl) rfl rfl rfl ?_
              refine WL_is (X_move rfl rfl) rfl rfl rfl ?_
              refine WL_is (X_fieldAddr rfl rfl rfl (by simp only [Nat.zero_add] <;> rfl)) rfl rfl rfl ?_
              refine WL_is (X_load1 rfl rfl (by exact idx0) rfl rfl) rfl rfl rfl ?_
              refine WL_is (X_callv rfl rfl rfl Try.func42 rfl (by assumption)) rfl rfl rfl ?_
              refine WL_is (X_not rfl rfl) rfl rfl rfl ?_
              refine WL_is (X_pick_f rfl rfl rfl) rfl rfl rfl ?_
              (repeat (first | refine WL_nil ?_ | refine Then_normal ?_ | refine W_seq ?_ | refine W_true rfl ?_))
              skip
              refine W_region rfl ?_
              refine WL_is (X_assign rfl rfl) rfl rfl rfl ?_
              (repeat (first | refine WL_nil ?_ | refine Then_normal ?_ | refine W_ret ?_ | refine Then_ret ?_))
              refine Body_end rfl rfl rfl (SubR.none _) ?_
              simp [Acl.may, h6]
          | false =>
            rw [h5] at c1
            (repeat (first | refine W_seq ?_))
            skip
            refine W_region rfl ?_
            (refine WL_box rfl rfl rfl rfl rfl rfl ?_; intro b_)
            refine WL_is (X_assign rfl rfl) rfl rfl rfl ?_
            (repeat (first | refine WL_nil ?_ | refine Then_normal ?_ | refine W_seq ?_))
            skip
            refine W_region rfl ?_
            refine WL_is (X_fieldAddr rfl rfl rfl (by simp only [Nat.zero_add] <;> rfl)) rfl rfl rfl ?_
            refine WL_is (X_load1 rfl rfl (by exact idx0) rfl rfl) rfl rfl rfl ?_
            refine WL_is (X_gtr_f rfl rfl rfl (by omega)) rfl rfl rfl ?_
            refine WL_is (X_move rfl rfl) rfl rfl rfl ?_
            refine WL_is (X_fieldAddr rfl rfl rfl (by simp only [Nat.zero_add] <;> rfl)) rfl rfl rfl ?_
            refine WL_is (X_load1 rfl rfl (by exact idx0) rfl rfl) rfl rfl rfl ?_
            refine WL_is (X_gtr_f rfl rfl rfl (by omega)) rfl rfl rfl ?_
            refine WL_is (X_pick_f rfl rfl rfl) rfl rfl rfl ?_
            refine WL_is (X_move rfl rfl) rfl rfl rfl ?_
            refine WL_is (X_fieldAddr rfl rfl rfl (by simp only [Nat.zero_add] <;> rfl)) rfl rfl rfl ?_
            refine WL_is (X_load1 rfl rfl (by exact idx0) rfl rfl) rfl rfl rfl ?_
            refine WL_is (X_gtr_f rfl rfl rfl (by omega)) rfl rfl rfl ?_
            refine WL_is (X_pick_f rfl rfl rfl) rfl rfl rfl ?_
            refine WL_is (X_move rfl rfl) rfl rfl rfl ?_
            refine WL_is (X_fieldAddr rfl rfl rfl (by simp only [Nat.zero_add] <;> rfl)) rfl rfl rfl ?_
            refine WL_is (X_load1 rfl rfl (by exact idx0) rfl rfl) rfl rfl rfl ?_
            refine WL_is (X_gtr_f rfl rfl rfl (by omega)) rfl rfl rfl ?_
            refine WL_is (X_pick_f rfl rfl rfl) rfl rfl rfl ?_
            refine WL_is (X_move rfl rfl) rfl rfl rfl ?_
            refine WL_is (X_fieldAddr rfl rfl rfl (by simp only [Nat.zero_add] <;> rfl)) rfl rfl rfl ?_
            refine WL_is (X_load1 rfl rfl (by exact idx0) rfl rfl) rfl rfl rfl ?_
            refine WL_is (X_callv rfl rfl rfl Try.func42 rfl (by assumption)) rfl rfl rfl ?_
            refine WL_is (X_not rfl rfl) rfl rfl rfl ?_
            refine WL_is (X_pick_f rfl rfl rfl) rfl rfl rfl ?_
            refine WL_is (X_move rfl rfl) rfl rfl rfl ?_
            refine WL_off rfl rfl rfl ?_
            refine WL_off rfl rfl rfl ?_
            refine WL_off rfl rfl rfl ?_
            refine WL_off rfl rfl rfl ?_
            refine WL_is (X_pick_t rfl rfl rfl) rfl rfl rfl ?_
            (repeat (first | refine WL_nil ?_ | refine Then_normal ?_ | refine W_seq ?_ | refine W_true rfl ?_))
            skip
            refine W_region rfl ?_
            refine WL_is (X_assign rfl rfl) rfl rfl rfl ?_
            (repeat (first | refine WL_nil ?_ | refine Then_normal ?_ | refine W_ret ?_ | refine Then_ret ?_))
            refine Body_end rfl rfl rfl (SubR.none _) ?_
            simp [Acl.may, h5]
        · (repeat (first | refine W_seq ?_))
          skip
          refine W_region rfl ?_
          (refine WL_box rfl rfl rfl rfl rfl rfl ?_; intro b_)
          refine WL_is (X_assign rfl rfl) rfl rfl rfl ?_
          (repeat (first | refine WL_nil ?_ | refine Then_normal ?_ | refine W_seq ?_))
          skip
          refine W_region rfl ?_
          refine WL_is (X_fieldAddr rfl rfl rfl (by simp only [Nat.zero_add] <;> rfl)) rfl rfl rfl ?_
          refine WL_is (X_load1 rfl rfl (by exact idx0) rfl rfl) rfl rfl rfl ?_
          refine WL_is (X_gtr_f rfl rfl rfl (by omega)) rfl rfl rfl ?_
          refine WL_is (X_move rfl rfl) rfl rfl rfl ?_
          refine WL_is (X_fieldAddr rfl rfl rfl (by simp only [Nat.zero_add] <;> rfl)) rfl rfl rfl ?_
          refine WL_is (X_load1 rfl rfl (by exact idx0) rfl rfl) rfl rfl rfl ?_
          refine WL_is (X_gtr_f rfl rfl rfl (by omega)) rfl rfl rfl ?_
          refine WL_is (X_pick_f rfl rfl rfl) rfl rfl rfl ?_
          refine WL_is (X_move rfl rfl) rfl rfl rfl ?_
          refine WL_is (X_fieldAddr rfl rfl rfl (by simp only [Nat.zero_add] <;> rfl)) rfl rfl rfl ?_
          refine WL_is (X_load1 rfl rfl (by exact idx0) rfl rfl) rfl rfl rfl ?_
          refine WL_is (X_gtr_f rfl rfl rfl (by omega)) rfl rfl rfl ?_
          refine WL_is (X_pick_f rfl rfl rfl) rfl rfl rfl ?_
          refine WL_is (X_move rfl rfl) rfl rfl rfl ?_
          refine WL_is (X_fieldAddr rfl rfl rfl (by simp only [Nat.zero_add] <;> rfl)) rfl rfl rfl ?_
          refine WL_is (X_load1 rfl rfl (by exact idx0) rfl rfl) rfl rfl rfl ?_
          refine WL_is (X_gtr_t rfl rfl rfl (by omega)) rfl rfl rfl ?_
          refine WL_is (X_pick_f rfl rfl rfl) rfl rfl rfl ?_
          refine WL_is (X_move rfl rfl) rfl rfl rfl ?_
          refine WL_off rfl rfl rfl ?_
          refine WL_off rfl rfl rfl ?_
          refine WL_off rfl rfl rfl ?_
          refine WL_off rfl rfl rfl ?_
          refine WL_is (X_pick_t rfl rfl rfl) rfl rfl rfl ?_
          refine WL_is (X_move rfl rfl) rfl rfl rfl ?_
          refine WL_off rfl rfl rfl ?_
          refine WL_off rfl rfl rfl ?_
          refine WL_off rfl rfl rfl ?_
          refine WL_off rfl rfl rfl ?_
          refine WL_is (X_pick_t rfl rfl rfl) rfl rfl rfl ?_
          (repeat (first | refine WL_nil ?_ | refine Then_normal ?_ | refine W_seq ?_ | refine W_true rfl ?_))
          skip
          refine W_region rfl ?_
          refine WL_is (X_assign rfl rfl) rfl rfl rfl ?_
          (repeat (first | refine WL_nil ?_ | refine Then_normal ?_ | refine W_ret ?_ | refine Then_ret ?_))
          refine Body_end rfl rfl rfl (SubR.none _) ?_
          simp [Acl.may, Acl.p7, allB, h4]
      · (repeat (first | refine W_seq ?_))
        skip
        refine W_region rfl ?_
        (refine WL_box rfl rfl rfl rfl rfl rfl ?_; intro b_)
        refine WL_is (X_assign rfl rfl) rfl rfl rfl ?_
        (repeat (first | refine WL_nil ?_ | refine Then_normal ?_ | refine W_seq ?_))
        skip
        refine W_region rfl ?_
        refine WL_is (X_fieldAddr rfl rfl rfl (by simp only [Nat.zero_add] <;> rfl)) rfl rfl rfl ?_
        refine WL_is (X_load1 rfl rfl (by exact idx0) rfl rfl) rfl rfl rfl ?_
        refine WL_is (X_gtr_f rfl rfl rfl (by omega)) rfl rfl rfl ?_
        refine WL_is (X_move rfl rfl) rfl rfl rfl ?_
        refine WL_is (X_fieldAddr rfl rfl rfl (by simp only [Nat.zero_add] <;> rfl)) rfl rfl rfl ?_
        refine WL_is (X_load1 rfl rfl (by exact idx0) rfl rfl) rfl rfl rfl ?_
        refine WL_is (X_gtr_f rfl rfl rfl (by omega)) rfl rfl rfl ?_
        refine WL_is (X_pick_f rfl rfl rfl) rfl rfl rfl ?_
        refine WL_is (X_move rfl rfl) rfl rfl rfl ?_
        refine WL_is (X_fieldAddr rfl rfl rfl (by simp only [Nat.zero_add] <;> rfl)) rfl rfl rfl ?_
        refine WL_is (X_load1 rfl rfl (by exact idx0) rfl rfl) rfl rfl rfl ?_
        refine WL_is (X_gtr_t rfl rfl rfl (by omega)) rfl rfl rfl ?_
        refine WL_is (X_pick_f rfl rfl rfl) rfl rfl rfl ?_
        refine WL_is (X_move rfl rfl) rfl rfl rfl ?_
        refine WL_off rfl rfl rfl ?_
        refine WL_off rfl rfl rfl ?_
        refine WL_off rfl rfl rfl ?_
        refine WL_is (X_pick_t rfl rfl rfl) rfl rfl rfl ?_
        refine WL_is (X_move rfl rfl) rfl rfl rfl ?_
        refine WL_off rfl rfl rfl ?_
        refine WL_off rfl rfl rfl ?_
        refine WL_off rfl rfl rfl ?_
        refine WL_off rfl rfl rfl ?_
        refine WL_is (X_pick_t rfl rfl rfl) rfl rfl rfl ?_
        refine WL_is (X_move rfl rfl) rfl rfl rfl ?_
        refine WL_off rfl rfl rfl ?_
        refine WL_off rfl rfl rfl ?_
        refine WL_off rfl rfl rfl ?_
        refine WL_off rfl rfl rfl ?_
        refine WL_is (X_pick_t rfl rfl rfl) rfl rfl rfl ?_
        (repeat (first | refine WL_nil ?_ | refine Then_normal ?_ | refine W_seq ?_ | refine W_true rfl ?_))
        skip
        refine W_region rfl ?_
        refine WL_is (X_assign rfl rfl) rfl rfl rfl ?_
        (repeat (first | refine WL_nil ?_ | refine Then_normal ?_ | refine W_ret ?_ | refine Then_ret ?_))
        refine Body_end rfl rfl rfl (SubR.none _) ?_
        simp [Acl.may, Acl.p7, allB, h3]
    · (repeat (first | refine W_seq ?_))
      skip
      refine W_region rfl ?_
      (refine WL_box rfl rfl rfl rfl rfl rfl ?_; intro b_)
      refine WL_is (X_assign rfl rfl) rfl rfl rfl ?_
      (repeat (first | refine WL_nil ?_ | refine Then_normal ?_ | refine W_seq ?_))
      skip
      refine W_region rfl ?_
      refine WL_is (X_fieldAddr rfl rfl rfl (by simp only [Nat.zero_add] <;> rfl)) rfl rfl rfl ?_
      refine WL_is (X_load1 rfl rfl (by exact idx0) rfl rfl) rfl rfl rfl ?_
      refine WL_is (X_gtr_f rfl rfl rfl (by omega)) rfl rfl rfl ?_
      refine WL_is (X_move rfl rfl) rfl rfl rfl ?_
      refine WL_is (X_fieldAddr rfl rfl rfl (by simp only [Nat.zero_add] <;> rfl)) rfl rfl rfl ?_
      refine WL_is (X_load1 rfl rfl (by exact idx0) rfl rfl) rfl rfl rfl ?_
      refine WL_is (X_gtr_t rfl rfl rfl (by omega)) rfl rfl rfl ?_
      refine WL_is (X_pick_f rfl rfl rfl) rfl rfl rfl ?_
      refine WL_is (X_move rfl rfl) rfl rfl rfl ?_
      refine WL_off rfl rfl rfl ?_
      refine WL_off rfl rfl rfl ?_
      refine WL_off rfl rfl rfl ?_
      refine WL_is (X_pick_t rfl rfl rfl) rfl rfl rfl ?_
      refine WL_is (X_move rfl rfl) rfl rfl rfl ?_
      refine WL_off rfl rfl rfl ?_
      refine WL_off rfl rfl rfl ?_
      refine WL_off rfl rfl rfl ?_
      refine WL_is (X_pick_t rfl rfl rfl) rfl rfl rfl ?_
      refine WL_is (X_move rfl rfl) rfl rfl rfl ?_
      refine WL_off rfl rfl rfl ?_
      refine WL_off rfl rfl rfl ?_
      refine WL_off rfl rfl rfl ?_
      refine WL_off rfl rfl rfl ?_
      refine WL_is (X_pick_t rfl rfl rfl) rfl rfl rfl ?_
      refine WL_is (X_move rfl rfl) rfl rfl rfl ?_
      refine WL_off rfl rfl rfl ?_
      refine WL_off rfl rfl rfl ?_
      refine WL_off rfl rfl rfl ?_
      refine WL_off rfl rfl rfl ?_
      refine WL_is (X_pick_t rfl rfl rfl) rfl rfl rfl ?_
      (repeat (first | refine WL_nil ?_ | refine Then_normal ?_ | refine W_seq ?_ | refine W_true rfl ?_))
      skip
      refine W_region rfl ?_
      refine WL_is (X_assign rfl rfl) rfl rfl rfl ?_
      (repeat (first | refine WL_nil ?_ | refine Then_normal ?_ | refine W_ret ?_ | refine Then_ret ?_))
      refine Body_end rfl rfl rfl (SubR.none _) ?_
      simp [Acl.may, Acl.p7, allB, h2]
  · (repeat (first | refine W_seq ?_))
    skip
    refine W_region rfl ?_
    (refine WL_box rfl rfl rfl rfl rfl rfl ?_; intro b_)
    refine WL_is (X_assign rfl rfl) rfl rfl rfl ?_
    (repeat (first | refine WL_nil ?_ | refine Then_normal ?_ | refine W_seq ?_))
    skip
    refine W_region rfl ?_
    refine WL_is (X_fieldAddr rfl rfl rfl (by simp only [Nat.zero_add] <;> rfl)) rfl rfl rfl ?_
    refine WL_is (X_load1 rfl rfl (by exact idx0) rfl rfl) rfl rfl rfl ?_
    refine WL_is (X_gtr_t rfl rfl rfl (by omega)) rfl rfl rfl ?_
    refine WL_is (X_move rfl rfl) rfl rfl rfl ?_
    refine WL_off rfl rfl rfl ?_
    refine WL_off rfl rfl rfl ?_
    refine WL_off rfl rfl rfl ?_
    refine WL_is (X_pick_t rfl rfl rfl) rfl rfl rfl ?_
    refine WL_is (X_move rfl rfl) rfl rfl rfl ?_
    refine WL_off rfl rfl rfl ?_
    refine WL_off rfl rfl rfl ?_
    refine WL_off rfl rfl rfl ?_
    refine WL_is (X_pick_t rfl rfl rfl) rfl rfl rfl ?_
    refine WL_is (X_move rfl rfl) rfl rfl rfl ?_
    refine WL_off rfl rfl rfl ?_
    refine WL_off rfl rfl rfl ?_
    refine WL_off rfl rfl rfl ?_
    refine WL_is (X_pick_t rfl rfl rfl) rfl rfl rfl ?_
    refine WL_is (X_move rfl rfl) rfl rfl rfl ?_
    refine WL_off rfl rfl rfl ?_
    refine WL_off rfl rfl rfl ?_
    refine WL_off rfl rfl rfl ?_
    refine WL_off rfl rfl rfl ?_
    refine WL_is (X_pick_t rfl rfl rfl) rfl rfl rfl ?_
    refine WL_is (X_move rfl rfl) rfl rfl rfl ?_
    refine WL_off rfl rfl rfl ?_
    refine WL_off rfl rfl rfl ?_
    refine WL_off rfl rfl rfl ?_
    refine WL_off rfl rfl rfl ?_
    refine WL_is (X_pick_t rfl rfl rfl) rfl rfl rfl ?_
    (repeat (first | refine WL_nil ?_ | refine Then_normal ?_ | refine W_seq ?_ | refine W_true rfl ?_))
    skip
    refine W_region rfl ?_
    refine WL_is (X_assign rfl rfl) rfl rfl rfl ?_
    (repeat (first | refine WL_nil ?_ | refine Then_normal ?_ | refine W_ret ?_ | refine Then_ret ?_))
    refine Body_end rfl rfl rfl (SubR.none _) ?_
    simp [Acl.may, Acl.p7, allB, h1]
theorem check_all (o g t m : Int) (us gs : List (Int × Int)) (hm : Bool) : allB [o, g, t, m].length (fun i => if hi : i < [o, g, t, m].length then decide ([o, g, t, m][i] ≤ 7) else true) = Acl.p7 ⟨o, g, t, us, gs, hm, m⟩ := by
  simp [Acl.p7, allB]
set_option maxHeartbeats 1000000 in
theorem check_fn (h : PH) (a : Acl) (v : Value) (hv : AclV h v a) (hs : a.small) (hok : a.Ok) : Does Try.prog 36 [v] [] h (Ret fun r _ _ => r = .int .i64 (if a.may then 0 else 622)) := by
  have hm0 := hok.m
  unfold u8 at hm0
  obtain ⟨u, g, rfl, hu, hg⟩ := hv
  obtain ⟨o, gg, t, us, gs, hm, m⟩ := a
  obtain ⟨hs1, hs2⟩ := hs
  simp only [aclV] at *
  refine Does_of_W Try.func36 rfl (n := 44) rfl rfl (by simp only [argE] <;> rfl) ?_
  (repeat (first | refine W_seq ?_))
  skip
  refine W_region rfl ?_
  (refine WL_box rfl rfl rfl rfl rfl rfl ?_; intro b_)
  refine WL_is (X_assign rfl rfl) rfl rfl rfl ?_
  (repeat (first | refine WL_nil ?_ | refine Then_normal ?_ | refine W_seq ?_))
  skip
  refine W_region rfl ?_
  refine WL_is (X_fieldAddr rfl rfl rfl (by simp only [Nat.zero_add] <;> rfl)) rfl rfl rfl ?_
  refine WL_is (X_load1 rfl rfl (by exact idx0) rfl rfl) rfl rfl rfl ?_
  refine WL_is (X_fieldAddr rfl rfl rfl (by simp only [Nat.zero_add] <;> rfl)) rfl rfl rfl ?_
  refine WL_is (X_load1 rfl rfl (by exact idx0) rfl rfl) rfl rfl rfl ?_
  refine WL_is (X_fieldAddr rfl rfl rfl (by simp only [Nat.zero_add] <;> rfl)) rfl rfl rfl ?_
  refine WL_is (X_load1 rfl rfl (by exact idx0) rfl rfl) rfl rfl rfl ?_
  refine WL_is (X_fieldAddr rfl rfl rfl (by simp only [Nat.zero_add] <;> rfl)) rfl rfl rfl ?_
  refine WL_is (X_load1 rfl rfl (by exact idx0) rfl rfl) rfl rfl rfl ?_
  refine WL_buildSlice rfl rfl rfl rfl rfl rfl rfl rfl rfl rfl rfl rfl rfl ?_
  intro b
  refine WL_upd (Upd.blkrow (cap := 4) (m := 4) (sz := 1) (xs := [.int .u8 o, .int .u8 gg, .int .u8 t, .int .u8 m]) 0 rfl (Nat.le_refl _) rfl rfl) ?_
  refine WL_updE (UpdE.row (enc := encU8) (L := [o, gg, t, m]) 0 rfl (by simp [encU8])) ?_
  rintro R' h' hle ⟨rfl, hsl⟩
  have hu' := hu.mono hle
  have hg' := hg.mono hle
  have c0 := eachU8_fn h' [o, gg, t, m] _ hsl (by simp) 44 _ [] (fun i => if hi : i < [o, gg, t, m].length then decide ([o, gg, t, m][i] ≤ 7) else true) Try.func44 rfl (fun i hi => by rw [dif_pos hi]; exact check1_fn h' i _)
  rw [check_all o gg t m us gs hm] at c0
  have c1 := named_fn h' us u hu' (by omega)
  have c2 := named_fn h' gs g hg' (by omega)
  cases h1 : Acl.p7 ⟨o, gg, t, us, gs, hm, m⟩ with
  | false =>
    rw [h1] at c0
    refine WL_is (X_assign rfl rfl) rfl rfl rfl ?_
    (repeat (first | refine WL_nil ?_ | refine Then_normal ?_ | refine W_seq ?_ | refine W_block ?_))
    skip
    refine W_region rfl ?_
    refine WL_is (X_move rfl rfl) rfl rfl rfl ?_
    refine WL_is (X_callv rfl rfl rfl Try.func43 rfl (by assumption)) rfl rfl rfl ?_
    refine WL_is (X_not rfl rfl) rfl rfl rfl ?_
    refine WL_is (X_assign rfl rfl) rfl rfl rfl ?_
    (repeat (first | refine WL_nil ?_ | refine Then_normal ?_ | refine W_seq ?_ | refine W_skip ?_ | refine W_true rfl ?_))
    skip
    refine W_region rfl ?_
    refine WL_is (X_assign rfl rfl) rfl rfl rfl ?_
    (repeat (first | refine WL_nil ?_ | refine Then_normal ?_ | refine W_ret ?_ | refine Then_ret ?_ | refine inBlk_ret ?_))
    refine Body_end rfl rfl rfl (SubR.none _) ?_
    simp [Acl.may, h1]
  | true =>
    rw [h1] at c0
    cases h5 : namedB us with
    | false =>
      rw [h5] at c1
      refine WL_is (X_assign rfl rfl) rfl rfl rfl ?_
      (repeat (first | refine WL_nil ?_ | refine Then_normal ?_ | refine W_seq ?_ | refine W_block ?_))
      skip
      refine W_region rfl ?_
      refine WL_is (X_move rfl rfl) rfl rfl rfl ?_
      refine WL_is (X_callv rfl rfl rfl Try.func43 rfl (by assumption)) rfl rfl rfl ?_
      refine WL_is (X_not rfl rfl) rfl rfl rfl ?_
      refine WL_is (X_assign rfl rfl) rfl rfl rfl ?_
      (repeat (first | refine WL_nil ?_ | refine Then_normal ?_ | refine W_seq ?_ | refine W_false rfl ?_))
      skip
      refine W_region rfl ?_
      refine WL_is (X_fieldAddr rfl rfl rfl (by simp only [Nat.zero_add] <;> rfl)) rfl rfl rfl ?_
      refine WL_is (X_load1 rfl rfl (by exact idx0) rfl rfl) rfl rfl rfl ?_
      refine WL_is (X_callv rfl rfl rfl Try.func45 rfl (by assumption)) rfl rfl rfl ?_
      refine WL_is (X_not rfl rfl) rfl rfl rfl ?_
      refine WL_is (X_assign rfl rfl) rfl rfl rfl ?_
      (repeat (first | refine WL_nil ?_ | refine Then_normal ?_ | refine W_seq ?_ | refine W_skip ?_ | refine W_true rfl ?_))
      skip
      refine W_region rfl ?_
      refine WL_is (X_assign rfl rfl) rfl rfl rfl ?_
      (repeat (first | refine WL_nil ?_ | refine Then_normal ?_ | refine W_ret ?_ | refine Then_ret ?_ | refine inBlk_ret ?_))
      refine Body_end rfl rfl rfl (SubR.none _) ?_
      simp [Acl.may, h5]
    | true =>
      rw [h5] at c1
      cases h6 : namedB gs with
      | false =>
        rw [h6] at c2
        refine WL_is (X_assign rfl rfl) rfl rfl rfl ?_
        (repeat (first | refine WL_nil ?_ | refine Then_normal ?_ | refine W_seq ?_ | refine W_block ?_))
        skip
        refine W_region rfl ?_
        refine WL_is (X_move rfl rfl) rfl rfl rfl ?_
        refine WL_is (X_callv rfl rfl rfl Try.func43 rfl (by assumption)) rfl rfl rfl ?_
        refine WL_is (X_not rfl rfl) rfl rfl rfl ?_
        refine WL_is (X_assign rfl rfl) rfl rfl rfl ?_
        (repeat (first | refine WL_nil ?_ | refine Then_normal ?_ | refine W_seq ?_ | refine W_false rfl ?_))
        skip
        refine W_region rfl ?_
        refine WL_is (X_fieldAddr rfl rfl rfl (by simp only [Nat.zero_add] <;> rfl)) rfl rfl rfl ?_
        refine WL_is (X_load1 rfl rfl (by exact idx0) rfl rfl) rfl rfl rfl ?_
        refine WL_is (X_callv rfl rfl rfl Try.func45 rfl (by assumption)) rfl rfl rfl ?_
        refine WL_is (X_not rfl rfl) rfl rfl rfl ?_
        refine WL_is (X_assign rfl rfl) rfl rfl rfl ?_
        (repeat (first | refine WL_nil ?_ | refine Then_normal ?_ | refine W_false rfl ?_))
        skip
        refine W_region rfl ?_
        refine WL_is (X_fieldAddr rfl rfl rfl (by simp only [Nat.zero_add] <;> rfl)) rfl rfl rfl ?_
        refine WL_is (X_load1 rfl rfl (by exact idx0) rfl rfl) rfl rfl rfl ?_
        refine WL_is (X_callv rfl rfl rfl Try.func45 rfl (by assumption)) rfl rfl rfl ?_
        refine WL_is (X_not rfl rfl) rfl rfl rfl ?_
        refine WL_is (X_assign rfl rfl) rfl rfl rfl ?_
        (repeat (first | refine WL_nil ?_ | refine Then_normal ?_ | refine W_seq ?_ | refine W_true rfl ?_))
        skip
        refine W_region rfl ?_
        refine WL_is (X_assign rfl rfl) rfl rfl rfl ?_
        (repeat (first | refine WL_nil ?_ | refine Then_normal ?_ | refine W_ret ?_ | refine Then_ret ?_ | refine inBlk_ret ?_))
        refine Body_end rfl rfl rfl (SubR.none _) ?_
        simp [Acl.may, h6]
      | true =>
        rw [h6] at c2
        refine WL_is (X_assign rfl rfl) rfl rfl rfl ?_
        (repeat (first | refine WL_nil ?_ | refine Then_normal ?_ | refine W_seq ?_ | refine W_block ?_))
        skip
        refine W_region rfl ?_
        refine WL_is (X_move rfl rfl) rfl rfl rfl ?_
        refine WL_is (X_callv rfl rfl rfl Try.func43 rfl (by assumption)) rfl rfl rfl ?_
        refine WL_is (X_not rfl rfl) rfl rfl rfl ?_
        refine WL_is (X_assign rfl rfl) rfl rfl rfl ?_
        (repeat (first | refine WL_nil ?_ | refine Then_normal ?_ | refine W_seq ?_ | refine W_false rfl ?_))
        skip
        refine W_region rfl ?_
        refine WL_is (X_fieldAddr rfl rfl rfl (by simp only [Nat.zero_add] <;> rfl)) rfl rfl rfl ?_
        refine WL_is (X_load1 rfl rfl (by exact idx0) rfl rfl) rfl rfl rfl ?_
        refine WL_is (X_callv rfl rfl rfl Try.func45 rfl (by assumption)) rfl rfl rfl ?_
        refine WL_is (X_not rfl rfl) rfl rfl rfl ?_
        refine WL_is (X_assign rfl rfl) rfl rfl rfl ?_
        (repeat (first | refine WL_nil ?_ | refine Then_normal ?_ | refine W_false rfl ?_))
        skip
        refine W_region rfl ?_
        refine WL_is (X_fieldAddr rfl rfl rfl (by simp only [Nat.zero_add] <;> rfl)) rfl rfl rfl ?_
        refine WL_is (X_load1 rfl rfl (by exact idx0) rfl rfl) rfl rfl rfl ?_
        refine WL_is (X_callv rfl rfl rfl Try.func45 rfl (by assumption)) rfl rfl rfl ?_
        refine WL_is (X_not rfl rfl) rfl rfl rfl ?_
        refine WL_is (X_assign rfl rfl) rfl rfl rfl ?_
        (repeat (first | refine WL_nil ?_ | refine Then_normal ?_ | refine W_seq ?_ | refine W_false rfl ?_))
        cases hm with
        | true =>
          skip
          refine W_region rfl ?_
          refine WL_is (X_fieldAddr rfl rfl rfl (by simp only [Nat.zero_add] <;> rfl)) rfl rfl rfl ?_
          refine WL_is (X_load1 rfl rfl (by exact idx0) rfl rfl) rfl rfl rfl ?_
          refine WL_is (X_not rfl rfl) rfl rfl rfl ?_
          refine WL_is (X_move rfl rfl) rfl rfl rfl ?_
          refine WL_off rfl rfl rfl ?_
          refine WL_off rfl rfl rfl ?_
          refine WL_off rfl rfl rfl ?_
          refine WL_off rfl rfl rfl ?_
          refine WL_off rfl rfl rfl ?_
          refine WL_off rfl rfl rfl ?_
          refine WL_off rfl rfl rfl ?_
          refine WL_off rfl rfl rfl ?_
          refine WL_off rfl rfl rfl ?_
          refine WL_off rfl rfl rfl ?_
          refine WL_off rfl rfl rfl ?_
          refine WL_off rfl rfl rfl ?_
          refine WL_off rfl rfl rfl ?_
          refine WL_is (X_pick_f rfl rfl rfl) rfl rfl rfl ?_
          refine WL_is (X_assign rfl rfl) rfl rfl rfl ?_
          (repeat (first | refine WL_nil ?_ | refine Then_normal ?_ | refine W_seq ?_ | refine W_skip ?_ | refine inBlk_normal ?_ | refine W_false rfl ?_))
          skip
          refine W_region rfl ?_
          refine WL_is (X_assign rfl rfl) rfl rfl rfl ?_
          (repeat (first | refine WL_nil ?_ | refine Then_normal ?_ | refine W_ret ?_))
          refine Body_end rfl rfl rfl (SubR.none _) ?_
          simp [Acl.may, Acl.lone, h1, h5, h6]
        | false =>
          by_cases h7 : m = 0
          · by_cases h8 : us.length = 0 ∧ gs.length = 0
            · obtain ⟨h8, h9⟩ := h8
              skip
              refine W_region rfl ?_
              refine WL_is (X_fieldAddr rfl rfl rfl (by simp only [Nat.zero_add] <;> rfl)) rfl rfl rfl ?_
              refine WL_is (X_load1 rfl rfl (by exact idx0) rfl rfl) rfl rfl rfl ?_
              refine WL_is (X_not rfl rfl) rfl rfl rfl ?_
              refine WL_is (X_move rfl rfl) rfl rfl rfl ?_
              refine WL_is (X_fieldAddr rfl rfl rfl (by simp only [Nat.zero_add] <;> rfl)) rfl rfl rfl ?_
              refine WL_is (X_load1 rfl rfl (by exact idx0) rfl rfl) rfl rfl rfl ?_
              refine WL_is (X_neq_f rfl rfl rfl (by omega)) rfl rfl rfl ?_
              refine WL_is (X_move rfl rfl) rfl rfl rfl ?_
              refine WL_is (X_fieldAddr rfl rfl rfl (by simp only [Nat.zero_add] <;> rfl)) rfl rfl rfl ?_
              refine WL_is (X_load1 rfl rfl (by exact idx0) rfl rfl) rfl rfl rfl ?_
              refine WL_is (X_len_sl rfl rfl rfl (by assumption)) rfl rfl rfl ?_
              refine WL_is (X_fieldAddr rfl rfl rfl (by simp only [Nat.zero_add] <;> rfl)) rfl rfl rfl ?_
              refine WL_is (X_load1 rfl rfl (by exact idx0) rfl rfl) rfl rfl rfl ?_
              refine WL_is (X_len_sl rfl rfl rfl (by assumption)) rfl rfl rfl ?_
              refine WL_is (X_addW rfl rfl rfl (by exact wrap_i64_in (by omega) (by omega))) rfl rfl rfl ?_
              refine WL_is (X_gtr_f rfl rfl rfl (by omega)) rfl rfl rfl ?_
              refine WL_is (X_pick_f rfl rfl rfl) rfl rfl rfl ?_
              refine WL_is (X_pick_t rfl rfl rfl) rfl rfl rfl ?_
              refine WL_is (X_assign rfl rfl) rfl rfl rfl ?_
              (repeat (first | refine WL_nil ?_ | refine Then_normal ?_ | refine W_seq ?_ | refine W_skip ?_ | refine inBlk_normal ?_ | refine W_false rfl ?_))
              skip
              refine W_region rfl ?_
              refine WL_is (X_assign rfl rfl) rfl rfl rfl ?_
              (repeat (first | refine WL_nil ?_ | refine Then_normal ?_ | refine W_ret ?_))
              refine Body_end rfl rfl rfl (SubR.none _) ?_
              subst h7
              simp [Acl.may, Acl.lone, h1, h5, h6, h8, h9]
            · skip
              refine W_region rfl ?_
              refine WL_is (X_fieldAddr rfl rfl rfl (by simp only [Nat.zero_add] <;> rfl)) rfl rfl rfl ?_
              refine WL_is (X_load1 rfl rfl (by exact idx0) rfl rfl) rfl rfl rfl ?_
              refine WL_is (X_not rfl rfl) rfl rfl rfl ?_
              refine WL_is (X_move rfl rfl) rfl rfl rfl ?_
              refine WL_is (X_fieldAddr rfl rfl rfl (by simp only [Nat.zero_add] <;> rfl)) rfl rfl rfl ?_
              refine WL_is (X_load1 rfl rfl (by exact idx0) rfl rfl) rfl rfl rfl ?_
              refine WL_is (X_neq_f rfl rfl rfl (by omega)) rfl rfl rfl ?_
              refine WL_is (X_move rfl rfl) rfl rfl rfl ?_
              refine WL_is (X_fieldAddr rfl rfl rfl (by simp only [Nat.zero_add] <;> rfl)) rfl rfl rfl ?_
              refine WL_is (X_load1 rfl rfl (by exact idx0) rfl rfl) rfl rfl rfl ?_
              refine WL_is (X_len_sl rfl rfl rfl (by assumption)) rfl rfl rfl ?_
              refine WL_is (X_fieldAddr rfl rfl rfl (by simp only [Nat.zero_add] <;> rfl)) rfl rfl rfl ?_
              refine WL_is (X_load1 rfl rfl (by exact idx0) rfl rfl) rfl rfl rfl ?_
              refine WL_is (X_len_sl rfl rfl rfl (by assumption)) rfl rfl rfl ?_
              refine WL_is (X_addW rfl rfl rfl (by exact wrap_i64_in (by omega) (by omega))) rfl rfl rfl ?_
              refine WL_is (X_gtr_t rfl rfl rfl (by omega)) rfl rfl rfl ?_
              refine WL_is (X_pick_f rfl rfl rfl) rfl rfl rfl ?_
              refine WL_is (X_pick_t rfl rfl rfl) rfl rfl rfl ?_
              refine WL_is (X_assign rfl rfl) rfl rfl rfl ?_
              (repeat (first | refine WL_nil ?_ | refine Then_normal ?_ | refine W_seq ?_ | refine W_true rfl ?_))
              skip
              refine W_region rfl ?_
              refine WL_is (X_assign rfl rfl) rfl rfl rfl ?_
              (repeat (first | refine WL_nil ?_ | refine Then_normal ?_ | refine W_ret ?_ | refine Then_ret ?_ | refine inBlk_ret ?_))
              refine Body_end rfl rfl rfl (SubR.none _) ?_
              rw [if_neg]
              simp only [Acl.may, Acl.lone, Bool.false_or, Bool.and_eq_true, decide_eq_true_eq]
              intro hc; exact h8 ⟨hc.2.1.2, hc.2.2⟩
          · skip
            refine W_region rfl ?_
            refine WL_is (X_fieldAddr rfl rfl rfl (by simp only [Nat.zero_add] <;> rfl)) rfl rfl rfl ?_
            refine WL_is (X_load1 rfl rfl (by exact idx0) rfl rfl) rfl rfl rfl ?_
            refine WL_is (X_not rfl rfl) rfl rfl rfl ?_
            refine WL_is (X_move rfl rfl) rfl rfl rfl ?_
            refine WL_is (X_fieldAddr rfl rfl rfl (by simp only [Nat.zero_add] <;> rfl)) rfl rfl rfl ?_
            refine WL_is (X_load1 rfl rfl (by exact idx0) rfl rfl) rfl rfl rfl ?_
            refine WL_is (X_neq_t rfl rfl rfl (by omega)) rfl rfl rfl ?_
            refine WL_is (X_move rfl rfl) rfl rfl rfl ?_
            refine WL_off rfl rfl rfl ?_
            refine WL_off rfl rfl rfl ?_
            refine WL_off rfl rfl rfl ?_
            refine WL_off rfl rfl rfl ?_
            refine WL_off rfl rfl rfl ?_
            refine WL_off rfl rfl rfl ?_
            refine WL_off rfl rfl rfl ?_
            refine WL_off rfl rfl rfl ?_
            refine WL_is (X_pick_t rfl rfl rfl) rfl rfl rfl ?_
            refine WL_is (X_pick_t rfl rfl rfl) rfl rfl rfl ?_
            refine WL_is (X_assign rfl rfl) rfl rfl rfl ?_
            (repeat (first | refine WL_nil ?_ | refine Then_normal ?_ | refine W_seq ?_ | refine W_true rfl ?_))
            skip
            refine W_region rfl ?_
            refine WL_is (X_assign rfl rfl) rfl rfl rfl ?_
            (repeat (first | refine WL_nil ?_ | refine Then_normal ?_ | refine W_ret ?_ | refine Then_ret ?_ | refine inBlk_ret ?_))
            refine Body_end rfl rfl rfl (SubR.none _) ?_
            simp [Acl.may, Acl.lone, h7]
set_option maxHeartbeats 400000 in
theorem large_fn (h : PH) (a : Acl) (v : Value) (hv : AclV h v a) : Does Try.prog 35 [v] [] h (Ret fun r _ _ => r = .bool (decide (100 < a.us.length ∨ 100 < a.gs.length))) := by
  obtain ⟨u, g, rfl, hu, hg⟩ := hv
  obtain ⟨o, gg, t, us, gs, hm, m⟩ := a
  simp only [aclV] at *
  refine Does_of_W Try.func35 rfl (n := 13) rfl rfl (by simp only [argE] <;> rfl) ?_
  by_cases h1 : us.length > 100
  · (repeat (first | refine W_seq ?_))
    skip
    refine W_region rfl ?_
    (refine WL_box rfl rfl rfl rfl rfl rfl ?_; intro b_)
    refine WL_is (X_assign rfl rfl) rfl rfl rfl ?_
    (repeat (first | refine WL_nil ?_ | refine Then_normal ?_ | refine W_seq ?_))
    skip
    refine W_region rfl ?_
    refine WL_is (X_fieldAddr rfl rfl rfl (by simp only [Nat.zero_add] <;> rfl)) rfl rfl rfl ?_
    refine WL_is (X_load1 rfl rfl (by exact idx0) rfl rfl) rfl rfl rfl ?_
    refine WL_is (X_len_sl rfl rfl rfl (by assumption)) rfl rfl rfl ?_
    refine WL_is (X_gtr_t rfl rfl rfl (by omega)) rfl rfl rfl ?_
    refine WL_is (X_move rfl rfl) rfl rfl rfl ?_
    refine WL_off rfl rfl rfl ?_
    refine WL_off rfl rfl rfl ?_
    refine WL_off rfl rfl rfl ?_
    refine WL_off rfl rfl rfl ?_
    refine WL_is (X_pick_t rfl rfl rfl) rfl rfl rfl ?_
    refine WL_is (X_assign rfl rfl) rfl rfl rfl ?_
    (repeat (first | refine WL_nil ?_ | refine Then_normal ?_ | refine W_ret ?_))
    refine Body_end rfl rfl rfl (SubR.none _) ?_
    simp [h1]
  · by_cases h2 : gs.length > 100
    · (repeat (first | refine W_seq ?_))
      skip
      refine W_region rfl ?_
      (refine WL_box rfl rfl rfl rfl rfl rfl ?_; intro b_)
      refine WL_is (X_assign rfl rfl) rfl rfl rfl ?_
      (repeat (first | refine WL_nil ?_ | refine Then_normal ?_ | refine W_seq ?_))
      skip
      refine W_region rfl ?_
      refine WL_is (X_fieldAddr rfl rfl rfl (by simp only [Nat.zero_add] <;> rfl)) rfl rfl rfl ?_
      refine WL_is (X_load1 rfl rfl (by exact idx0) rfl rfl) rfl rfl rfl ?_
      refine WL_is (X_len_sl rfl rfl rfl (by assumption)) rfl rfl rfl ?_
      refine WL_is (X_gtr_f rfl rfl rfl (by omega)) rfl rfl rfl ?_
      refine WL_is (X_move rfl rfl) rfl rfl rfl ?_
      refine WL_is (X_fieldAddr rfl rfl rfl (by simp only [Nat.zero_add] <;> rfl)) rfl rfl rfl ?_
      refine WL_is (X_load1 rfl rfl (by exact idx0) rfl rfl) rfl rfl rfl ?_
      refine WL_is (X_len_sl rfl rfl rfl (by assumption)) rfl rfl rfl ?_
      refine WL_is (X_gtr_t rfl rfl rfl (by omega)) rfl rfl rfl ?_
      refine WL_is (X_pick_f rfl rfl rfl) rfl rfl rfl ?_
      refine WL_is (X_assign rfl rfl) rfl rfl rfl ?_
      (repeat (first | refine WL_nil ?_ | refine Then_normal ?_ | refine W_ret ?_))
      refine Body_end rfl rfl rfl (SubR.none _) ?_
      simp [h2]
    · (repeat (first | refine W_seq ?_))
      skip
      refine W_region rfl ?_
      (refine WL_box rfl rfl rfl rfl rfl rfl ?_; intro b_)
      refine WL_is (X_assign rfl rfl) rfl rfl rfl ?_
      (repeat (first | refine WL_nil ?_ | refine Then_normal ?_ | refine W_seq ?_))
      skip
      refine W_region rfl ?_
      refine WL_is (X_fieldAddr rfl rfl rfl (by simp only [Nat.zero_add] <;> rfl)) rfl rfl rfl ?_
      refine WL_is (X_load1 rfl rfl (by exact idx0) rfl rfl) rfl rfl rfl ?_
      refine WL_is (X_len_sl rfl rfl rfl (by assumption)) rfl rfl rfl ?_
      refine WL_is (X_gtr_f rfl rfl rfl (by omega)) rfl rfl rfl ?_
      refine WL_is (X_move rfl rfl) rfl rfl rfl ?_
      refine WL_is (X_fieldAddr rfl rfl rfl (by simp only [Nat.zero_add] <;> rfl)) rfl rfl rfl ?_
      refine WL_is (X_load1 rfl rfl (by exact idx0) rfl rfl) rfl rfl rfl ?_
      refine WL_is (X_len_sl rfl rfl rfl (by assumption)) rfl rfl rfl ?_
      refine WL_is (X_gtr_f rfl rfl rfl (by omega)) rfl rfl rfl ?_
      refine WL_is (X_pick_f rfl rfl rfl) rfl rfl rfl ?_
      refine WL_is (X_assign rfl rfl) rfl rfl rfl ?_
      (repeat (first | refine WL_nil ?_ | refine Then_normal ?_ | refine W_ret ?_))
      refine Body_end rfl rfl rfl (SubR.none _) ?_
      simp at h1 h2
      simp; omega
end Go.Proofs.Ytcgmbfgmofcemaa
