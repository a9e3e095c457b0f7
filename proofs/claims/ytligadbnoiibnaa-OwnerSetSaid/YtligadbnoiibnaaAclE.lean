/- Access lists: the program's copies. -/
import Derived.Test.YtligadbnoiibnaaAclD
namespace Go.Proofs.Ytligadbnoiibnaa
set_option maxRecDepth 4000
open Go Go.Par PH

attribute [local irreducible] W WL Does Exec Body Then inBlk RG WR row obj pblk
set_option maxHeartbeats 400000 in
theorem copy_fn (h : PH) (a : Acl) (v : Value) (hv : AclV h v a) (hs : a.small) : Does Try.prog 42 [v] [] h (Ret fun r R' _ => owns r R' a) := by
  obtain ⟨u, g, rfl, hu, hg⟩ := hv
  obtain ⟨o, gg, t, us, gs, hm, m⟩ := a
  obtain ⟨hs1, hs2⟩ := hs
  simp only [aclV] at *
  refine Does_of_W Try.func42 rfl (n := 12) rfl rfl (by simp only [argE] <;> rfl) ?_
  (repeat (first | refine W_seq ?_))
  skip
  refine W_region rfl ?_
  (refine WL_box rfl rfl rfl rfl rfl rfl ?_; intro b_)
  (refine WL_alloc rfl rfl rfl rfl rfl rfl ?_; intro b_)
  (repeat (first | refine WL_nil ?_ | refine Then_normal ?_ | refine W_seq ?_))
  skip
  refine W_draw0 7 rfl rfl rfl rfl ?_
  refine RG_val rfl rfl (fun _ => rfl) (fun _ => X_fieldAddr rfl rfl rfl (by simp only [Nat.zero_add] <;> rfl)) ?_
  refine RG_val rfl rfl (fun _ => rfl) (fun _ => X_load1 rfl rfl (by exact idx1) rfl rfl) ?_
  refine RG_call (.opq (fun v _ => ∃ a cap, v = .slice a us.length cap) [] fun v => [rowL encN v 84 2 us]) [] _ (fun _ _ _ _ h => h) rfl (fun _ => rfl) (fun _ => rfl) Try.func64 rfl rfl rfl (fun _ => rfl) (.refl _) (fun vs h' hl _ => (clone_fn h' us u (hu.mono hl) (by omega)).wkn ?_) ?_
  · rintro v R' h' _ ⟨hsh, rfl⟩
    exact ⟨hsh, SubR.refl _⟩
  refine RG_val rfl rfl (fun _ => rfl) (fun _ => X_fieldAddr rfl rfl rfl (by simp only [Nat.zero_add] <;> rfl)) ?_
  refine RG_val rfl rfl (fun _ => rfl) (fun _ => X_load1 rfl rfl (by exact idx1) rfl rfl) ?_
  refine RG_call (.opq (fun v _ => ∃ a cap, v = .slice a gs.length cap) [] fun v => [rowL encN v 84 2 gs]) [] _ (fun _ _ _ _ h => h) rfl (fun _ => rfl) (fun _ => rfl) Try.func64 rfl rfl rfl (fun _ => rfl) (.refl _) (fun vs h' hl _ => (clone_fn h' gs g (hg.mono hl) (by omega)).wkn ?_) ?_
  · rintro v R' h' _ ⟨hsh, rfl⟩
    exact ⟨hsh, SubR.refl _⟩
  refine RG_val rfl rfl (fun _ => rfl) (fun _ => X_fieldAddr rfl rfl rfl (by simp only [Nat.zero_add] <;> rfl)) ?_
  refine RG_nil ?_
  refine RG_end rfl (fun vs => by simp only [endE, List.cons_append, List.nil_append] <;> rfl) (fun vs => by simp only [endR, List.cons_append, List.nil_append, List.append_nil] <;> rfl) (fun vs h' hf => hf) ?_
  rintro vs h' hl hF
  simp only [endF, Nat.zero_add, Nat.reduceAdd] at hF
  obtain ⟨⟨a2, c2, e2⟩, ⟨a1, c1, e1⟩, -⟩ := hF
  simp only [Nat.zero_add, Nat.reduceAdd, e1, e2]
  refine WL_store rfl rfl rfl (by exact idx3) rfl rfl rfl rfl rfl rfl rfl rfl rfl ?_
  refine WL_is (X_fieldAddr rfl rfl rfl (by simp only [Nat.zero_add] <;> rfl)) rfl rfl rfl ?_
  refine WL_store rfl rfl rfl (by exact idx3) rfl rfl rfl rfl rfl rfl rfl rfl rfl ?_
  (repeat (first | refine WL_nil ?_ | refine Then_normal ?_ | refine W_seq ?_))
  skip
  refine W_region rfl ?_
  refine WL_is (X_loadA rfl rfl (by exact idx3) rfl rfl rfl) rfl rfl rfl ?_
  refine WL_store rfl rfl rfl (by exact idx2) rfl rfl rfl rfl rfl rfl rfl rfl rfl ?_
  (repeat (first | refine WL_nil ?_ | refine Then_normal ?_ | refine W_ret ?_))
  refine Body_vals (.cons (.cellA rfl idx2 rfl rfl rfl) .nil) rfl ?_
  exact UpdE.sub (R1 := [rowL encN _ 84 2 us, rowL encN _ 84 2 gs]) (SubR.trans (SubR.of_perm (.swap _ _ _)) (SubR.cons _ (SubR.cons _ (SubR.none _)))) ⟨a1, c1, a2, c2, rfl, rfl⟩
set_option maxHeartbeats 400000 in
theorem of_ref (h : PH) (b : Int) (hb : u16 b) : Does Try.prog 57 [.int .u16 b] [] h (Ret fun r R' _ => r = aclV ⟨b / 64 % 8, b / 8 % 8, b % 8, [], [], false, 0⟩ (.slice none 0 0) (.slice none 0 0) ∧ R' = []) := by
  unfold u16 at hb
  refine Does_of_W Try.func57 rfl (n := 15) rfl rfl (by simp only [argE] <;> rfl) ?_
  (repeat (first | refine W_seq ?_))
  skip
  refine W_region rfl ?_
  (refine WL_alloc rfl rfl rfl rfl rfl rfl ?_; intro b_)
  (repeat (first | refine WL_nil ?_ | refine Then_normal ?_ | refine W_seq ?_))
  skip
  refine W_region rfl ?_
  refine WL_is (X_move rfl rfl) rfl rfl rfl ?_
  refine WL_is (X_quoW rfl rfl rfl (by omega) (by omega) (by exact wrap_u16_in (by omega) (by omega))) rfl rfl rfl ?_
  refine WL_is (X_rem rfl rfl rfl (by omega) (by omega)) rfl rfl rfl ?_
  refine WL_is (X_convW rfl rfl rfl rfl (by exact wrap_u8_in (by omega) (by omega))) rfl rfl rfl ?_
  refine WL_is (X_move rfl rfl) rfl rfl rfl ?_
  refine WL_is (X_quoW rfl rfl rfl (by omega) (by omega) (by exact wrap_u16_in (by omega) (by omega))) rfl rfl rfl ?_
  refine WL_is (X_rem rfl rfl rfl (by omega) (by omega)) rfl rfl rfl ?_
  refine WL_is (X_convW rfl rfl rfl rfl (by exact wrap_u8_in (by omega) (by omega))) rfl rfl rfl ?_
  refine WL_is (X_move rfl rfl) rfl rfl rfl ?_
  refine WL_is (X_rem rfl rfl rfl (by omega) (by omega)) rfl rfl rfl ?_
  refine WL_is (X_convW rfl rfl rfl rfl (by exact wrap_u8_in (by omega) (by omega))) rfl rfl rfl ?_
  refine WL_is (X_build rfl rfl rfl) rfl rfl rfl ?_
  refine WL_store rfl rfl rfl (by exact idx0) rfl rfl rfl rfl rfl rfl rfl rfl rfl ?_
  (repeat (first | refine WL_nil ?_ | refine Then_normal ?_ | refine W_ret ?_))
  refine Body_vals (.cons (.cellA rfl idx0 rfl rfl rfl) .nil) rfl ?_
  exact UpdE.sub (SubR.none _) ⟨rfl, rfl⟩
/-- Other bits. -/
def Acl.chmod (a : Acl) (b : Int) : Acl := if a.hm then { a with o := b / 64 % 8, m := b / 8 % 8, t := b % 8 } else { a with o := b / 64 % 8, g := b / 8 % 8, t := b % 8 }
theorem chmod_t (o g t : Int) (us gs : List (Int × Int)) (m b : Int) : Acl.chmod ⟨o, g, t, us, gs, true, m⟩ b = ⟨b / 64 % 8, g, b % 8, us, gs, true, b / 8 % 8⟩ := rfl
theorem chmod_f (o g t : Int) (us gs : List (Int × Int)) (m b : Int) : Acl.chmod ⟨o, g, t, us, gs, false, m⟩ b = ⟨b / 64 % 8, b / 8 % 8, b % 8, us, gs, false, m⟩ := rfl
set_option maxHeartbeats 400000 in
theorem chmod_ref (h : PH) (a : Acl) (v : Value) (b : Int) (hv : AclV h v a) (hs : a.small) (hb : u16 b) : Does Try.prog 25 [v, .int .u16 b] [] h (Ret fun r R' _ => owns r R' (a.chmod b)) := by
  have hc := fun h' (hl : le h h') => copy_ref h' a v (hv.mono hl) hs
  have hofc := fun h' => of_ref h' b hb
  obtain ⟨u, g, rfl, hu, hg⟩ := hv
  obtain ⟨o, gg, t, us, gs, hm, m⟩ := a
  simp only [aclV] at *
  unfold u16 at hb
  refine Does_of_W Try.func25 rfl (n := 26) rfl rfl (by simp only [argE, Nat.reduceAdd] <;> rfl) ?_
  (repeat (first | refine W_seq ?_))
  skip
  refine W_region rfl ?_
  (refine WL_box rfl rfl rfl rfl rfl rfl ?_; intro b_)
  (refine WL_alloc rfl rfl rfl rfl rfl rfl ?_; intro b_)
  (repeat (first | refine WL_nil ?_ | refine Then_normal ?_ | refine W_seq ?_))
  skip
  refine W_region rfl ?_
  refine WL_is (X_loadA rfl rfl (by exact idx1) rfl rfl rfl) rfl rfl rfl ?_
  refine WL_call rfl rfl rfl Try.func12 rfl rfl rfl rfl (hc h (le.refl h)) ?_
  rintro r R' h' hl ⟨a1, c1, a2, c2, rfl, rfl⟩
  simp only [aclV, List.cons_append, List.nil_append]
  (refine WL_alloc rfl rfl rfl rfl rfl rfl ?_; intro b_)
  refine WL_store rfl rfl rfl (by exact idx0) rfl rfl rfl rfl rfl rfl rfl rfl rfl ?_
  (repeat (first | refine WL_nil ?_ | refine Then_normal ?_ | refine W_seq ?_))
  skip
  refine W_region rfl ?_
  refine WL_is (X_move rfl rfl) rfl rfl rfl ?_
  refine WL_call rfl rfl rfl Try.func57 rfl rfl rfl rfl (hofc h') ?_
  rintro r R' h2 hl2 ⟨rfl, rfl⟩
  simp only [List.nil_append]
  (refine WL_alloc rfl rfl rfl rfl rfl rfl ?_; intro b_)
  refine WL_store rfl rfl rfl (by exact idx0) rfl rfl rfl rfl rfl rfl rfl rfl rfl ?_
  (repeat (first | refine WL_nil ?_ | refine Then_normal ?_ | refine W_seq ?_))
  skip
  refine W_region rfl ?_
  refine WL_is (X_fieldAddr rfl rfl rfl (by simp only [Nat.zero_add] <;> rfl)) rfl rfl rfl ?_
  refine WL_is (X_load1 rfl rfl (by exact idx0) rfl rfl) rfl rfl rfl ?_
  refine WL_is (X_fieldAddr rfl rfl rfl (by simp only [Nat.zero_add] <;> rfl)) rfl rfl rfl ?_
  refine WL_store rfl rfl rfl (by exact idx1) rfl rfl rfl rfl rfl rfl rfl rfl rfl ?_
  (repeat (first | refine WL_nil ?_ | refine Then_normal ?_ | refine W_seq ?_))
  skip
  refine W_region rfl ?_
  refine WL_is (X_fieldAddr rfl rfl rfl (by simp only [Nat.zero_add] <;> rfl)) rfl rfl rfl ?_
  refine WL_is (X_load1 rfl rfl (by exact idx0) rfl rfl) rfl rfl rfl ?_
  refine WL_is (X_fieldAddr rfl rfl rfl (by simp only [Nat.zero_add] <;> rfl)) rfl rfl rfl ?_
  refine WL_store rfl rfl rfl (by exact idx1) rfl rfl rfl rfl rfl rfl rfl rfl rfl ?_
  (repeat (first | refine WL_nil ?_ | refine Then_normal ?_ | refine W_seq ?_))
  skip
  refine W_region rfl ?_
  refine WL_is (X_fieldAddr rfl rfl rfl (by simp only [Nat.zero_add] <;> rfl)) rfl rfl rfl ?_
  refine WL_is (X_load1 rfl rfl (by exact idx1) rfl rfl) rfl rfl rfl ?_
  (repeat (first | refine WL_nil ?_ | refine Then_normal ?_))
  cases hm
  · (repeat (first | refine W_false rfl ?_))
    refine W_region rfl ?_
    refine WL_is (X_fieldAddr rfl rfl rfl (by simp only [Nat.zero_add] <;> rfl)) rfl rfl rfl ?_
    refine WL_is (X_load1 rfl rfl (by exact idx0) rfl rfl) rfl rfl rfl ?_
    refine WL_is (X_fieldAddr rfl rfl rfl (by simp only [Nat.zero_add] <;> rfl)) rfl rfl rfl ?_
    refine WL_store rfl rfl rfl (by exact idx1) rfl rfl rfl rfl rfl rfl rfl rfl rfl ?_
    (repeat (first | refine WL_nil ?_ | refine Then_normal ?_ | refine W_seq ?_))
    skip
    refine W_region rfl ?_
    refine WL_is (X_loadA rfl rfl (by exact idx1) rfl rfl rfl) rfl rfl rfl ?_
    refine WL_store rfl rfl rfl (by exact idx4) rfl rfl rfl rfl rfl rfl rfl rfl rfl ?_
    (repeat (first | refine WL_nil ?_ | refine Then_normal ?_ | refine W_ret ?_))
    refine Body_vals (.cons (.cellA rfl (by exact idx4) rfl rfl rfl) .nil) rfl ?_
    exact UpdE.sub (SubR.skip _ (SubR.skip _ (SubR.cons _ (SubR.cons _ (SubR.none _))))) ⟨a1, c1, a2, c2, rfl, rfl⟩
  · (repeat (first | refine W_true rfl ?_))
    refine W_region rfl ?_
    refine WL_is (X_fieldAddr rfl rfl rfl (by simp only [Nat.zero_add] <;> rfl)) rfl rfl rfl ?_
    refine WL_is (X_load1 rfl rfl (by exact idx0) rfl rfl) rfl rfl rfl ?_
    refine WL_is (X_fieldAddr rfl rfl rfl (by simp only [Nat.zero_add] <;> rfl)) rfl rfl rfl ?_
    refine WL_store rfl rfl rfl (by exact idx1) rfl rfl rfl rfl rfl rfl rfl rfl rfl ?_
    (repeat (first | refine WL_nil ?_ | refine Then_normal ?_ | refine W_seq ?_))
    skip
    refine W_region rfl ?_
    refine WL_is (X_loadA rfl rfl (by exact idx1) rfl rfl rfl) rfl rfl rfl ?_
    refine WL_store rfl rfl rfl (by exact idx4) rfl rfl rfl rfl rfl rfl rfl rfl rfl ?_
    (repeat (first | refine WL_nil ?_ | refine Then_normal ?_ | refine W_ret ?_))
    refine Body_vals (.cons (.cellA rfl (by exact idx4) rfl rfl rfl) .nil) rfl ?_
    exact UpdE.sub (SubR.skip _ (SubR.skip _ (SubR.cons _ (SubR.cons _ (SubR.none _))))) ⟨a1, c1, a2, c2, rfl, rfl⟩
theorem u8w3 {b : Int} (_ : 0 ≤ b) (k : Int) (h : 0 ≤ b / k) : bits .and .u8 (IntKind.u8.wrap (b / k)) 7 = b / k % 8 := u8w_and7 h
set_option maxHeartbeats 800000 in
theorem chmod_fn (h : PH) (a : Acl) (v : Value) (b : Int) (hv : AclV h v a) (hs : a.small) (hb : u16 b) : Does Try.prog 52 [v, .int .u16 b] [] h (Ret fun r R' _ => owns r R' (a.chmod b)) := by
  have hc := fun h' (hl : le h h') => copy_fn h' a v (hv.mono hl) hs
  obtain ⟨u, g, rfl, hu, hg⟩ := hv
  obtain ⟨o, gg, t, us, gs, hm, m⟩ := a
  simp only [aclV] at *
  unfold u16 at hb
  refine Does_of_W Try.func52 rfl (n := 24) rfl rfl (by simp only [argE, Nat.reduceAdd] <;> rfl) ?_
  (repeat (first | refine W_seq ?_))
  skip
  refine W_region rfl ?_
  (refine WL_box rfl rfl rfl rfl rfl rfl ?_; intro b_)
  (refine WL_alloc rfl rfl rfl rfl rfl rfl ?_; intro b_)
  (repeat (first | refine WL_nil ?_ | refine Then_normal ?_ | refine W_seq ?_))
  skip
  refine W_region rfl ?_
  refine WL_is (X_loadA rfl rfl (by exact idx1) rfl rfl rfl) rfl rfl rfl ?_
  refine WL_call rfl rfl rfl Try.func42 rfl rfl rfl rfl (hc h (le.refl h)) ?_
  rintro r R' h' hl ⟨a1, c1, a2, c2, rfl, rfl⟩
  simp only [aclV, List.cons_append, List.nil_append]
  refine WL_store rfl rfl rfl (by exact idx3) rfl rfl rfl rfl rfl rfl rfl rfl rfl ?_
  (repeat (first | refine WL_nil ?_ | refine Then_normal ?_ | refine W_seq ?_))
  skip
  refine W_region rfl ?_
  rename_i b1
  refine WL_callR [_] [_, _, _] rfl rfl rfl Try.func69 rfl rfl rfl rfl (perm_front 3 rfl) (seen_fn h' o gg t m _ _ hm b1) ?_
  rintro v R' h2 hle ⟨rfl, rfl⟩
  simp only [seenV, List.cons_append, List.nil_append]
  have w1 := fun k => u8w3 (b := b) hb.1 k
  cases hm
  all_goals
    simp only [if_true, if_false, Bool.false_eq_true]
    refine WL_is (X_move rfl rfl) rfl rfl rfl ?_
    (repeat (first | refine WL_nil ?_ | refine Then_normal ?_ | refine W_block ?_))
    refine W_rounds 4 ?_
    (repeat (first | refine WR_succ ?_ | refine W_seq ?_))
    refine W_region rfl ?_
    refine WL_is (X_lss_t rfl rfl rfl (by omega)) rfl rfl rfl ?_
    (repeat (first | refine WL_nil ?_ | refine Then_normal ?_ | refine W_seq ?_ | refine W_skip ?_ | refine W_block ?_ | refine W_true rfl ?_))
    skip
    refine W_region rfl ?_
    refine WL_is (X_move rfl rfl) rfl rfl rfl ?_
    refine WL_is (X_index_val rfl rfl rfl rfl rfl rfl (by omega) (by omega) rfl) rfl rfl rfl ?_
    refine WL_is (X_assign rfl rfl) rfl rfl rfl ?_
    refine WL_is (X_assign rfl rfl) rfl rfl rfl ?_
    (repeat (first | refine WL_nil ?_ | refine Then_normal ?_))
    skip
    refine W_region rfl ?_
    refine WL_is (X_move rfl rfl) rfl rfl rfl ?_
    refine WL_is (X_move rfl rfl) rfl rfl rfl ?_
    refine WL_is (X_move rfl rfl) rfl rfl rfl ?_
    refine WL_is (X_mulW rfl rfl rfl (by refine wrapL (by simp only [Int.reduceMul] <;> rfl) ?_; decide)) rfl rfl rfl ?_
    refine WL_is (X_shrW rfl rfl rfl (by omega) (by decide) (by simp only [Int.toNat_zero, Int.ediv_one, Int.pow_zero] <;> rfl)) rfl rfl rfl ?_
    refine WL_is (X_conv rfl rfl rfl rfl) rfl rfl rfl ?_
    refine WL_is (X_andW (k := .u8) rfl rfl rfl (by exact u8w_and7 (by omega))) rfl rfl rfl ?_
    refine WL_is (X_nilCheck rfl rfl) rfl rfl rfl ?_
    refine WL_store rfl rfl rfl (by exact idx0) rfl rfl rfl rfl rfl rfl rfl rfl rfl ?_
    (repeat (first | refine WL_nil ?_ | refine Then_normal ?_ | refine inBlk_normal ?_))
    skip
    refine W_region rfl ?_
    refine WL_is (X_addW rfl rfl rfl (by refine wrapL (by simp only [Int.reduceAdd] <;> rfl) ?_; decide)) rfl rfl rfl ?_
    refine WL_is (X_move rfl rfl) rfl rfl rfl ?_
    (repeat (first | refine WL_nil ?_ | refine WR_succ ?_ | refine Then_normal ?_ | refine W_seq ?_))
    skip
    refine W_region rfl ?_
    refine WL_is (X_lss_t rfl rfl rfl (by omega)) rfl rfl rfl ?_
    (repeat (first | refine WL_nil ?_ | refine Then_normal ?_ | refine W_seq ?_ | refine W_skip ?_ | refine W_block ?_ | refine W_true rfl ?_))
    skip
    refine W_region rfl ?_
    refine WL_is (X_move rfl rfl) rfl rfl rfl ?_
    refine WL_is (X_index_val rfl rfl rfl rfl rfl rfl (by omega) (by omega) rfl) rfl rfl rfl ?_
    refine WL_is (X_assign rfl rfl) rfl rfl rfl ?_
    refine WL_is (X_assign rfl rfl) rfl rfl rfl ?_
    (repeat (first | refine WL_nil ?_ | refine Then_normal ?_))
    skip
    refine W_region rfl ?_
    refine WL_is (X_move rfl rfl) rfl rfl rfl ?_
    refine WL_is (X_move rfl rfl) rfl rfl rfl ?_
    refine WL_is (X_move rfl rfl) rfl rfl rfl ?_
    refine WL_is (X_mulW rfl rfl rfl (by refine wrapL (by simp only [Int.reduceMul] <;> rfl) ?_; decide)) rfl rfl rfl ?_
    refine WL_is (X_shrW rfl rfl rfl (by omega) (by decide) (by simp only [Int.reduceToNat, Int.reducePow] <;> rfl)) rfl rfl rfl ?_
    refine WL_is (X_conv rfl rfl rfl rfl) rfl rfl rfl ?_
    refine WL_is (X_andW (k := .u8) rfl rfl rfl (by exact u8w_and7 (by omega))) rfl rfl rfl ?_
    refine WL_is (X_nilCheck rfl rfl) rfl rfl rfl ?_
    refine WL_store rfl rfl rfl (by exact idx0) rfl rfl rfl rfl rfl rfl rfl rfl rfl ?_
    (repeat (first | refine WL_nil ?_ | refine Then_normal ?_ | refine inBlk_normal ?_))
    skip
    refine W_region rfl ?_
    refine WL_is (X_addW rfl rfl rfl (by refine wrapL (by simp only [Int.reduceAdd] <;> rfl) ?_; decide)) rfl rfl rfl ?_
    refine WL_is (X_move rfl rfl) rfl rfl rfl ?_
    (repeat (first | refine WL_nil ?_ | refine WR_succ ?_ | refine Then_normal ?_ | refine W_seq ?_))
    skip
    refine W_region rfl ?_
    refine WL_is (X_lss_t rfl rfl rfl (by omega)) rfl rfl rfl ?_
    (repeat (first | refine WL_nil ?_ | refine Then_normal ?_ | refine W_seq ?_ | refine W_skip ?_ | refine W_block ?_ | refine W_true rfl ?_))
    skip
    refine W_region rfl ?_
    refine WL_is (X_move rfl rfl) rfl rfl rfl ?_
    refine WL_is (X_index_val rfl rfl rfl rfl rfl rfl (by omega) (by omega) rfl) rfl rfl rfl ?_
    refine WL_is (X_assign rfl rfl) rfl rfl rfl ?_
    refine WL_is (X_assign rfl rfl) rfl rfl rfl ?_
    (repeat (first | refine WL_nil ?_ | refine Then_normal ?_))
    skip
    refine W_region rfl ?_
    refine WL_is (X_move rfl rfl) rfl rfl rfl ?_
    refine WL_is (X_move rfl rfl) rfl rfl rfl ?_
    refine WL_is (X_move rfl rfl) rfl rfl rfl ?_
    refine WL_is (X_mulW rfl rfl rfl (by refine wrapL (by simp only [Int.reduceMul] <;> rfl) ?_; decide)) rfl rfl rfl ?_
    refine WL_is (X_shrW rfl rfl rfl (by omega) (by decide) (by simp only [Int.reduceToNat, Int.reducePow] <;> rfl)) rfl rfl rfl ?_
    refine WL_is (X_conv rfl rfl rfl rfl) rfl rfl rfl ?_
    refine WL_is (X_andW (k := .u8) rfl rfl rfl (by exact u8w_and7 (by omega))) rfl rfl rfl ?_
    refine WL_is (X_nilCheck rfl rfl) rfl rfl rfl ?_
    refine WL_store rfl rfl rfl (by exact idx0) rfl rfl rfl rfl rfl rfl rfl rfl rfl ?_
    (repeat (first | refine WL_nil ?_ | refine Then_normal ?_ | refine inBlk_normal ?_))
    skip
    refine W_region rfl ?_
    refine WL_is (X_addW rfl rfl rfl (by refine wrapL (by simp only [Int.reduceAdd] <;> rfl) ?_; decide)) rfl rfl rfl ?_
    refine WL_is (X_move rfl rfl) rfl rfl rfl ?_
    (repeat (first | refine WL_nil ?_ | refine WR_succ ?_ | refine Then_normal ?_ | refine W_seq ?_))
    skip
    refine W_region rfl ?_
    refine WL_is (X_lss_f rfl rfl rfl (by omega)) rfl rfl rfl ?_
    (repeat (first | refine WL_nil ?_ | refine Then_normal ?_ | refine W_seq ?_ | refine W_exit ?_ | refine Then_exit ?_ | refine inBlk_here ?_ | refine W_false rfl ?_))
    skip
    refine W_region rfl ?_
    refine WL_is (X_loadA rfl rfl (by exact idx0) rfl rfl rfl) rfl rfl rfl ?_
    refine WL_store rfl rfl rfl (by exact idx3) rfl rfl rfl rfl rfl rfl rfl rfl rfl ?_
    (repeat (first | refine WL_nil ?_ | refine Then_normal ?_ | refine W_ret ?_))
    refine Body_vals (.cons (.cellA rfl (by exact idx3) rfl rfl rfl) .nil) rfl ?_
    exact UpdE.sub (SubR.skip _ (SubR.cons _ (SubR.cons _ (SubR.none _)))) ⟨a1, c1, a2, c2, rfl, rfl⟩
end Go.Proofs.Ytligadbnoiibnaa
