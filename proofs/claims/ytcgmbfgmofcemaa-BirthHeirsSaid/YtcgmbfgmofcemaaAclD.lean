/- Access lists: copies, and lists with other bits. -/
import Derived.Test.YtcgmbfgmofcemaaAclC
namespace Go.Proofs.Ytcgmbfgmofcemaa
set_option maxRecDepth 4000
open Go Go.Par PH

attribute [local irreducible] W WL Does Exec Body Then inBlk RG WR row obj pblk
theorem elemN : ElemT Try.prog 26 53 2 4 := ElemT.mk' rfl rfl
theorem flatN (l : List (Int × Int)) : ∀ x ∈ l, (encN x).all flat = true := fun _ _ => rfl
theorem lenN (l : List (Int × Int)) : ∀ x ∈ l, (encN x).length = 2 := fun _ _ => rfl
set_option maxHeartbeats 400000 in
theorem clone_fn (h : PH) (l : List (Int × Int)) (v : Value) (hv : Sl encN 2 h v l) (hl : l.length ≤ 1000000) :
    Does Try.prog 39 [v] [] h (Ret fun r R' _ => (∃ a cap, r = .slice a l.length cap) ∧ R' = [rowL encN r 53 2 l]) := by
  obtain ⟨a, cap, hva⟩ := hv.shape
  subst hva
  refine Does_of_W Try.func39 rfl (n := 8) rfl rfl (by simp only [argE] <;> rfl) ?_
  cases a with
  | none =>
    have hl0 : l = [] := by
      obtain ⟨_, a, c, e, _, hn, _⟩ := hv
      simp only [Value.slice.injEq] at e
      exact (hn e.1.symm).1
    have hc0 : cap = 0 := by
      obtain ⟨_, a, c, e, _, hn, _⟩ := hv
      simp only [Value.slice.injEq] at e
      rw [e.2.2]; exact (hn e.1.symm).2
    subst hl0; subst hc0
    (repeat (first | refine W_seq ?_))
    skip
    refine W_region rfl ?_
    refine WL_is (X_assign rfl rfl) rfl rfl rfl ?_
    (repeat (first | refine WL_nil ?_ | refine Then_normal ?_ | refine W_seq ?_))
    skip
    refine W_region rfl ?_
    refine WL_is (X_move rfl rfl) rfl rfl rfl ?_
    refine WL_is (X_nilSl rfl rfl rfl rfl) rfl rfl rfl ?_
    (repeat (first | refine WL_nil ?_ | refine Then_normal ?_ | refine W_seq ?_ | refine W_true rfl ?_))
    skip
    refine W_region rfl ?_
    refine WL_is (X_assign rfl rfl) rfl rfl rfl ?_
    (repeat (first | refine WL_nil ?_ | refine Then_normal ?_ | refine W_ret ?_ | refine Then_ret ?_))
    refine Body_vals (.cons (.tmp rfl) .nil) rfl ?_
    exact UpdE.of (Upd.nilrow (e := 53) (sz := 2)) ⟨⟨_, _, rfl⟩, rfl⟩
  | some a =>
    (repeat (first | refine W_seq ?_))
    skip
    refine W_region rfl ?_
    refine WL_is (X_assign rfl rfl) rfl rfl rfl ?_
    (repeat (first | refine WL_nil ?_ | refine Then_normal ?_ | refine W_seq ?_))
    skip
    refine W_region rfl ?_
    refine WL_is (X_move rfl rfl) rfl rfl rfl ?_
    refine WL_is (X_nilSl rfl rfl rfl rfl) rfl rfl rfl ?_
    (repeat (first | refine WL_nil ?_ | refine Then_normal ?_ | refine W_seq ?_ | refine W_skip ?_ | refine W_false rfl ?_))
    skip
    refine W_region rfl ?_
    refine WL_buildSlice rfl rfl rfl rfl rfl rfl rfl rfl rfl rfl rfl rfl rfl ?_
    intro b
    refine WL_upd (Upd.blkrow (cap := 0) (m := 0) (sz := 2) (xs := []) 0 rfl (Nat.le_refl _) rfl rfl) ?_
    refine WL_is (X_move rfl rfl) rfl rfl rfl ?_
    refine WL_append (enc := encN) (L := []) (i := 0) rfl rfl rfl elemN rfl rfl (Src.sl hv) (flatN l) (by simp; omega) (by simp; omega) rfl rfl rfl ?_
    intro v'
    refine WL_is (X_assign rfl rfl) rfl rfl rfl ?_
    (repeat (first | refine WL_nil ?_ | refine Then_normal ?_ | refine W_ret ?_))
    refine Body_vals (.cons (.tmp rfl) .nil) rfl ?_
    refine (UpdE.shapeL 0 rfl).mono ?_
    rintro R1 h1 - ⟨e1, -, hs⟩
    exact ⟨hs, e1⟩
/-- What copies have: lists of their own. -/
def owns (r : Value) (R : List SL) (a : Acl) : Prop := ∃ a1 c1 a2 c2, r = aclV a (.slice a1 a.us.length c1) (.slice a2 a.gs.length c2) ∧ R = [rowL encN (.slice a1 a.us.length c1) 53 2 a.us, rowL encN (.slice a2 a.gs.length c2) 53 2 a.gs]
set_option maxHeartbeats 400000 in
theorem copy_ref (h : PH) (a : Acl) (v : Value) (hv : AclV h v a) (hs : a.small) : Does Try.prog 21 [v] [] h (Ret fun r R' _ => owns r R' a) := by
  obtain ⟨u, g, rfl, hu, hg⟩ := hv
  obtain ⟨o, gg, t, us, gs, hm, m⟩ := a
  obtain ⟨hs1, hs2⟩ := hs
  simp only [aclV] at *
  refine Does_of_W Try.func21 rfl (n := 12) rfl rfl (by simp only [argE] <;> rfl) ?_
  (repeat (first | refine W_seq ?_))
  skip
  refine W_region rfl ?_
  (refine WL_box rfl rfl rfl rfl rfl rfl ?_; intro b_)
  (refine WL_alloc rfl rfl rfl rfl rfl rfl ?_; intro b_)
  (repeat (first | refine WL_nil ?_ | refine Then_normal ?_ | refine W_seq ?_))
  skip
  refine W_region rfl ?_
  refine WL_is (X_fieldAddr rfl rfl rfl (by simp only [Nat.zero_add] <;> rfl)) rfl rfl rfl ?_
  refine WL_is (X_load1 rfl rfl (by exact idx1) rfl rfl) rfl rfl rfl ?_
  refine WL_append_nil (enc := encN) rfl rfl rfl elemN rfl (Src.sl hu) (flatN us) (by omega) (by omega) rfl rfl rfl ?_
  intro u'
  refine WL_updE (UpdE.shapeL 0 rfl) ?_
  rintro _ _ - ⟨rfl, rfl, a1, c1, rfl⟩
  refine WL_is (X_fieldAddr rfl rfl rfl (by simp only [Nat.zero_add] <;> rfl)) rfl rfl rfl ?_
  refine WL_store rfl rfl rfl (by exact idx2) rfl rfl rfl rfl rfl rfl rfl rfl rfl ?_
  (repeat (first | refine WL_nil ?_ | refine Then_normal ?_ | refine W_seq ?_))
  skip
  refine W_region rfl ?_
  refine WL_is (X_fieldAddr rfl rfl rfl (by simp only [Nat.zero_add] <;> rfl)) rfl rfl rfl ?_
  refine WL_is (X_load1 rfl rfl (by exact idx2) rfl rfl) rfl rfl rfl ?_
  refine WL_append_nil (enc := encN) rfl rfl rfl elemN rfl (Src.sl hg) (flatN gs) (by omega) (by omega) rfl rfl rfl ?_
  intro g'
  refine WL_updE (UpdE.shapeL 0 rfl) ?_
  rintro _ _ - ⟨rfl, rfl, a2, c2, rfl⟩
  refine WL_is (X_fieldAddr rfl rfl rfl (by simp only [Nat.zero_add] <;> rfl)) rfl rfl rfl ?_
  refine WL_store rfl rfl rfl (by exact idx3) rfl rfl rfl rfl rfl rfl rfl rfl rfl ?_
  (repeat (first | refine WL_nil ?_ | refine Then_normal ?_ | refine W_seq ?_))
  skip
  refine W_region rfl ?_
  refine WL_is (X_loadA rfl rfl (by exact idx3) rfl rfl rfl) rfl rfl rfl ?_
  refine WL_store rfl rfl rfl (by exact idx2) rfl rfl rfl rfl rfl rfl rfl rfl rfl ?_
  (repeat (first | refine WL_nil ?_ | refine Then_normal ?_ | refine W_ret ?_))
  refine Body_vals (.cons (.cellA rfl idx2 rfl rfl rfl) .nil) rfl ?_
  exact UpdE.sub (R1 := [rowL encN _ 53 2 us, rowL encN _ 53 2 gs]) (SubR.trans (SubR.of_perm (.swap _ _ _)) (SubR.cons _ (SubR.cons _ (SubR.none _)))) ⟨a1, c1, a2, c2, rfl, rfl⟩
end Go.Proofs.Ytcgmbfgmofcemaa
