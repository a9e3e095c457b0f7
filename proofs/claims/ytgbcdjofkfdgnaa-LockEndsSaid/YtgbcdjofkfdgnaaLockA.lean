/- Locks: what a table of queues tells, while it is known. -/
import Derived.Test.YtgbcdjofkfdgnaaProg
import Derived.Test.YtgbcdjofkfdgnaaEngE
import Derived.KernelRfl
namespace Go.Proofs.Ytgbcdjofkfdgnaa
open Go Go.Par PH
def heldTs : List Nat := []
theorem heldOk : heldTs.all (fun t => !Try.prog.stoodInHeld t) = true := rfl
theorem guardOk : heldTs.all (fun t => !Try.prog.eqGuardType Try.prog.depth t) = true := rfl
def encI (n : Int) : List Value := [.int .i64 n]
theorem elemI : ElemT Try.prog 40 3 1 8 := ElemT.mk' rfl rfl
theorem lenI (l : List Int) : ∀ x ∈ l, (encI x).length = 1 := fun _ _ => rfl
theorem flatI (l : List Int) : ∀ x ∈ l, (encI x).all flat = true := fun _ _ => rfl
def encV (v : Value) : List Value := [v]
theorem lenV (l : List Value) : ∀ x ∈ l, (encV x).length = 1 := fun _ _ => rfl
/-- A table of queues that is known. -/
structure Known (h : PH) (p v : Value) (vs : List Value) (qs : List (List Int)) (procs : Int) : Prop where
  tb : At h p [v, .int .i64 procs]
  sl : Sl encV 1 h v vs
  len : vs.length = qs.length
  q : ∀ i (hi : i < vs.length) (hi' : i < qs.length), Sl encI 1 h vs[i] qs[i]
  small : qs.length ≤ 1000
  short : ∀ q ∈ qs, q.length ≤ 100000
def headIs (q : List Int) (p : Int) : Bool := match q with | [] => false | x :: _ => decide (x = p)
/-- The locks that a process holds. -/
def holdsL (qs : List (List Int)) (p : Int) : Nat → List Int
  | 0 => []
  | k + 1 => holdsL qs p k ++ (if headIs ((qs[k]?).getD []) p then [(k : Int)] else [])
theorem holdsL_le (qs : List (List Int)) (p : Int) : ∀ k, (holdsL qs p k).length ≤ k
  | 0 => by simp [holdsL]
  | k + 1 => by
    have := holdsL_le qs p k
    simp only [holdsL, List.length_append]
    split <;> simp <;> omega
attribute [local irreducible] W WL Does Exec Body Then inBlk RG WR row obj pblk
set_option maxHeartbeats 1000000 in
theorem holds_fn (h : PH) (b : Nat) (v : Value) (vs : List Value) (qs : List (List Int)) (procs p : Int) (K : Known h (.pointer (some ⟨b, 0, none⟩)) v vs qs procs) :
    Does Try.prog 18 [.pointer (some ⟨b, 0, none⟩), .int .i64 p] [] h (Ret fun r R' _ => R' = [rowL encI r 3 1 (holdsL qs p qs.length)]) := by
  obtain ⟨hb, hv, hlen, hq, hsm, hsh⟩ := K
  obtain ⟨a, cap, rfl⟩ := hv.shape
  refine Does_of_W Try.func18 rfl (n := 35) rfl rfl (by simp only [argE, Nat.reduceAdd] <;> rfl) ?_
  (repeat (first | refine W_seq ?_))
  skip
  refine W_region rfl ?_
  refine WL_is (X_assign rfl rfl) rfl rfl rfl ?_
  (repeat (first | refine WL_nil ?_ | refine Then_normal ?_ | refine W_seq ?_))
  skip
  refine W_region rfl ?_
  refine WL_is (X_move rfl rfl) rfl rfl rfl ?_
  refine WL_is (X_eqPn_f rfl rfl rfl rfl) rfl rfl rfl ?_
  (repeat (first | refine WL_nil ?_ | refine Then_normal ?_ | refine W_seq ?_ | refine W_skip ?_ | refine W_false rfl ?_))
  skip
  refine W_region rfl ?_
  refine WL_is (X_move rfl rfl) rfl rfl rfl ?_
  refine WL_is (X_nilCheck rfl rfl) rfl rfl rfl ?_
  refine WL_is (X_fieldAddr rfl rfl rfl (by simp only [Nat.zero_add] <;> rfl)) rfl rfl rfl ?_
  refine WL_is (X_load1_at rfl rfl (by assumption) rfl rfl) rfl rfl rfl ?_
  refine WL_is (X_len_sl rfl rfl rfl (by assumption)) rfl rfl rfl ?_
  refine WL_is (X_move rfl rfl) rfl rfl rfl ?_
  (repeat (first | refine WL_nil ?_ | refine Then_normal ?_ | refine W_block ?_))
  refine W_upd (Upd.nilrow (e := 3) (sz := 1)) ?_
  refine W_loop (X := Nat × Value) (L := fun k => ⟨[(14, .int .i64 (k.1 : Int)), (13, .int .i64 (vs.length : Int)), (12, .slice a vs.length cap), (1, .int .i64 p), (4, k.2)], [], [rowL encI k.2 3 1 (holdsL qs p k.1)], h⟩) (p := fun k => k.1 ≤ vs.length) (μ := fun k => vs.length - k.1) (0, .slice none 0 0) ⟨(by repeat (first | exact SubE_nil | refine SubE_cons rfl ?_)), rfl, SubR.refl _, rfl⟩ (Nat.zero_le _) ?_
  rintro ⟨k, u⟩ hk
  dsimp only at hk ⊢
  by_cases hlt : k < vs.length
  · have hk' : k < qs.length := by omega
    have hqk := hq k hlt hk'
    have hhl := holdsL_le qs p k
    have hge : (qs[k]?).getD [] = qs[k] := by simp [hk']
    generalize hqq : qs[k] = q at hqk hge
    cases q with
    | nil =>
      have hl : holdsL qs p (k + 1) = holdsL qs p k := by rw [holdsL, hge]; simp [headIs]
      (repeat (first | refine W_seq ?_))
      refine W_region rfl ?_
      refine WL_is (X_lss_t rfl rfl rfl (by omega)) rfl rfl rfl ?_
      (repeat (first | refine WL_nil ?_ | refine Then_normal ?_ | refine W_seq ?_ | refine W_skip ?_ | refine W_block ?_ | refine W_true rfl ?_))
      skip
      refine W_region rfl ?_
      refine WL_is (X_move rfl rfl) rfl rfl rfl ?_
      (refine WL_index_slN rfl rfl rfl rfl rfl (by assumption) (by omega) rfl rfl rfl ?_; intro p_ hp_)
      refine WL_is (X_load1_at rfl rfl (by assumption) rfl rfl) rfl rfl rfl ?_
      refine WL_is (X_assign rfl rfl) rfl rfl rfl ?_
      refine WL_is (X_assign rfl rfl) rfl rfl rfl ?_
      (repeat (first | refine WL_nil ?_ | refine Then_normal ?_ | refine W_seq ?_))
      skip
      refine W_region rfl ?_
      refine WL_is (X_move rfl rfl) rfl rfl rfl ?_
      refine WL_is (X_len_sl rfl rfl rfl (by assumption)) rfl rfl rfl ?_
      refine WL_is (X_gtr rfl rfl rfl) rfl rfl rfl ?_
      refine WL_is (X_move rfl rfl) rfl rfl rfl ?_
      refine WL_off rfl rfl rfl ?_
      refine WL_off rfl rfl rfl ?_
      refine WL_off rfl rfl rfl ?_
      refine WL_off rfl rfl rfl ?_
      refine WL_off rfl rfl rfl ?_
      refine WL_is (X_pick_f rfl rfl rfl) rfl rfl rfl ?_
      (repeat (first | refine WL_nil ?_ | refine Then_normal ?_ | refine W_skip ?_ | refine inBlk_normal ?_ | refine W_false rfl ?_))
      skip
      refine W_region rfl ?_
      refine WL_is (X_addW rfl rfl rfl (by exact wrap_i64_in (by omega) (by omega))) rfl rfl rfl ?_
      refine WL_is (X_move rfl rfl) rfl rfl rfl ?_
      (repeat (first | refine WL_nil ?_ | refine Then_normal ?_))
      exact ⟨(k + 1, u), ⟨(by repeat (first | exact SubE_nil | refine SubE_cons rfl ?_)), rfl, SubR.of_perm (by rw [hl]), rfl⟩, by dsimp only; omega, by dsimp only; omega⟩
    | cons x q =>
      have hql : (x :: q).length = q.length + 1 := rfl
      have hx0 : (x :: q)[Int.toNat 0]'(by simp) = x := rfl
      by_cases hx : x = p
      · have hl : holdsL qs p (k + 1) = holdsL qs p k ++ [(k : Int)] := by rw [holdsL, hge]; simp [headIs, hx]
        (repeat (first | refine W_seq ?_))
        refine W_region rfl ?_
        refine WL_is (X_lss_t rfl rfl rfl (by omega)) rfl rfl rfl ?_
        (repeat (first | refine WL_nil ?_ | refine Then_normal ?_ | refine W_seq ?_ | refine W_skip ?_ | refine W_block ?_ | refine W_true rfl ?_))
        skip
        refine W_region rfl ?_
        refine WL_is (X_move rfl rfl) rfl rfl rfl ?_
        (refine WL_index_slN rfl rfl rfl rfl rfl (by assumption) (by omega) rfl rfl rfl ?_; intro p_ hp_)
        refine WL_is (X_load1_at rfl rfl (by assumption) rfl rfl) rfl rfl rfl ?_
        refine WL_is (X_assign rfl rfl) rfl rfl rfl ?_
        refine WL_is (X_assign rfl rfl) rfl rfl rfl ?_
        (repeat (first | refine WL_nil ?_ | refine Then_normal ?_ | refine W_seq ?_))
        skip
        refine W_region rfl ?_
        refine WL_is (X_move rfl rfl) rfl rfl rfl ?_
        refine WL_is (X_len_sl rfl rfl rfl (by assumption)) rfl rfl rfl ?_
        refine WL_is (X_gtr_t rfl rfl rfl (by omega)) rfl rfl rfl ?_
        refine WL_is (X_move rfl rfl) rfl rfl rfl ?_
        refine WL_is (X_move rfl rfl) rfl rfl rfl ?_
        (refine WL_index_sl rfl rfl rfl rfl rfl (by assumption) (by omega) (by omega) rfl rfl rfl ?_; intro p_ hp_)
        refine WL_is (X_load1_at rfl rfl (by assumption) rfl rfl) rfl rfl rfl ?_
        refine WL_is (X_move rfl rfl) rfl rfl rfl ?_
        refine WL_is (X_eql_t rfl rfl rfl (by omega)) rfl rfl rfl ?_
        refine WL_is (X_pick_t rfl rfl rfl) rfl rfl rfl ?_
        (repeat (first | refine WL_nil ?_ | refine Then_normal ?_ | refine W_true rfl ?_))
        skip
        refine W_region rfl ?_
        refine WL_is (X_move rfl rfl) rfl rfl rfl ?_
        refine WL_is (X_move rfl rfl) rfl rfl rfl ?_
        refine WL_buildSlice rfl rfl rfl rfl rfl rfl rfl rfl rfl rfl rfl rfl rfl ?_
        intro w
        refine WL_append (enc := encI) (L' := [(k : Int)]) (i := 1) rfl rfl rfl elemI rfl rfl (Src.own (i := 0) (c := [.int .i64 (k : Int)]) rfl rfl) (flatI _) (by simp only [List.length_cons, List.length_nil]; omega) (by simp only [List.length_cons, List.length_nil]; omega) rfl rfl rfl ?_
        intro v'
        refine WL_is (X_assign rfl rfl) rfl rfl rfl ?_
        (repeat (first | refine WL_nil ?_ | refine Then_normal ?_ | refine inBlk_normal ?_))
        skip
        refine W_region rfl ?_
        refine WL_is (X_addW rfl rfl rfl (by exact wrap_i64_in (by omega) (by omega))) rfl rfl rfl ?_
        refine WL_is (X_move rfl rfl) rfl rfl rfl ?_
        (repeat (first | refine WL_nil ?_ | refine Then_normal ?_))
        exact ⟨(k + 1, v'), ⟨(by repeat (first | exact SubE_nil | refine SubE_cons rfl ?_)), rfl, SubR.skip _ (SubR.of_perm (by rw [hl]; exact .refl _)), rfl⟩, by dsimp only; omega, by dsimp only; omega⟩
      · have hl : holdsL qs p (k + 1) = holdsL qs p k := by rw [holdsL, hge]; simp [headIs, hx]
        (repeat (first | refine W_seq ?_))
        refine W_region rfl ?_
        refine WL_is (X_lss_t rfl rfl rfl (by omega)) rfl rfl rfl ?_
        (repeat (first | refine WL_nil ?_ | refine Then_normal ?_ | refine W_seq ?_ | refine W_skip ?_ | refine W_block ?_ | refine W_true rfl ?_))
        skip
        refine W_region rfl ?_
        refine WL_is (X_move rfl rfl) rfl rfl rfl ?_
        (refine WL_index_slN rfl rfl rfl rfl rfl (by assumption) (by omega) rfl rfl rfl ?_; intro p_ hp_)
        refine WL_is (X_load1_at rfl rfl (by assumption) rfl rfl) rfl rfl rfl ?_
        refine WL_is (X_assign rfl rfl) rfl rfl rfl ?_
        refine WL_is (X_assign rfl rfl) rfl rfl rfl ?_
        (repeat (first | refine WL_nil ?_ | refine Then_normal ?_ | refine W_seq ?_))
        skip
        refine W_region rfl ?_
        refine WL_is (X_move rfl rfl) rfl rfl rfl ?_
        refine WL_is (X_len_sl rfl rfl rfl (by assumption)) rfl rfl rfl ?_
        refine WL_is (X_gtr_t rfl rfl rfl (by omega)) rfl rfl rfl ?_
        refine WL_is (X_move rfl rfl) rfl rfl rfl ?_
        refine WL_is (X_move rfl rfl) rfl rfl rfl ?_
        (refine WL_index_sl rfl rfl rfl rfl rfl (by assumption) (by omega) (by omega) rfl rfl rfl ?_; intro p_ hp_)
        refine WL_is (X_load1_at rfl rfl (by assumption) rfl rfl) rfl rfl rfl ?_
        refine WL_is (X_move rfl rfl) rfl rfl rfl ?_
        refine WL_is (X_eql_f rfl rfl rfl (by omega)) rfl rfl rfl ?_
        refine WL_is (X_pick_t rfl rfl rfl) rfl rfl rfl ?_
        (repeat (first | refine WL_nil ?_ | refine Then_normal ?_ | refine W_skip ?_ | refine inBlk_normal ?_ | refine W_false rfl ?_))
        skip
        refine W_region rfl ?_
        refine WL_is (X_addW rfl rfl rfl (by exact wrap_i64_in (by omega) (by omega))) rfl rfl rfl ?_
        refine WL_is (X_move rfl rfl) rfl rfl rfl ?_
        (repeat (first | refine WL_nil ?_ | refine Then_normal ?_))
        exact ⟨(k + 1, u), ⟨(by repeat (first | exact SubE_nil | refine SubE_cons rfl ?_)), rfl, SubR.of_perm (by rw [hl]), rfl⟩, by dsimp only; omega, by dsimp only; omega⟩
  · have hkl : k = qs.length := by omega
    subst hkl
    (repeat (first | refine W_seq ?_))
    refine W_region rfl ?_
    refine WL_is (X_lss_f rfl rfl rfl (by omega)) rfl rfl rfl ?_
    (repeat (first | refine WL_nil ?_ | refine Then_normal ?_ | refine W_seq ?_ | refine W_exit ?_ | refine Then_exit ?_ | refine inBlk_here ?_ | refine W_false rfl ?_))
    skip
    refine W_region rfl ?_
    refine WL_is (X_move rfl rfl) rfl rfl rfl ?_
    refine WL_is (X_assign rfl rfl) rfl rfl rfl ?_
    (repeat (first | refine WL_nil ?_ | refine Then_normal ?_ | refine W_ret ?_))
    exact Body_end rfl rfl rfl (SubR.refl _) rfl
theorem holds_nil (h : PH) (p : Int) : Does Try.prog 18 [.pointer none, .int .i64 p] [] h (Ret fun r R' _ => r = .slice none 0 0 ∧ R' = []) := by
  refine Does_of_W Try.func18 rfl (n := 35) rfl rfl (by simp only [argE, Nat.reduceAdd] <;> rfl) ?_
  (repeat (first | refine W_seq ?_))
  skip
  refine W_region rfl ?_
  refine WL_is (X_assign rfl rfl) rfl rfl rfl ?_
  (repeat (first | refine WL_nil ?_ | refine Then_normal ?_ | refine W_seq ?_))
  skip
  refine W_region rfl ?_
  refine WL_is (X_move rfl rfl) rfl rfl rfl ?_
  refine WL_is (X_eqPn_t rfl rfl rfl rfl) rfl rfl rfl ?_
  (repeat (first | refine WL_nil ?_ | refine Then_normal ?_ | refine W_seq ?_ | refine W_true rfl ?_))
  skip
  refine W_region rfl ?_
  refine WL_is (X_assign rfl rfl) rfl rfl rfl ?_
  (repeat (first | refine WL_nil ?_ | refine Then_normal ?_ | refine W_ret ?_ | refine Then_ret ?_))
  exact Body_end rfl rfl rfl (SubR.none _) ⟨rfl, rfl⟩
theorem waits_nil (h : PH) (p : Int) : Does Try.prog 17 [.pointer none, .int .i64 p] [] h (Ret fun r R' _ => r = .tuple #[.int .i64 0, .bool false] ∧ R' = []) := by
  refine Does_of_W Try.func17 rfl (n := 41) rfl rfl (by simp only [argE, Nat.reduceAdd] <;> rfl) ?_
  (repeat (first | refine W_seq ?_))
  skip
  skip
  refine W_region rfl ?_
  refine WL_is (X_assign rfl rfl) rfl rfl rfl ?_
  refine WL_is (X_assign rfl rfl) rfl rfl rfl ?_
  (repeat (first | refine WL_nil ?_ | refine Then_normal ?_ | refine W_seq ?_ | refine W_scope ?_))
  skip
  refine W_region rfl ?_
  refine WL_is (X_move rfl rfl) rfl rfl rfl ?_
  refine WL_is (X_eqPn_t rfl rfl rfl rfl) rfl rfl rfl ?_
  (repeat (first | refine WL_nil ?_ | refine Then_normal ?_ | refine W_seq ?_ | refine W_true rfl ?_))
  skip
  refine W_region rfl ?_
  refine WL_is (X_assign rfl rfl) rfl rfl rfl ?_
  refine WL_is (X_assign rfl rfl) rfl rfl rfl ?_
  (repeat (first | refine WL_nil ?_ | refine Then_normal ?_ | refine W_ret ?_ | refine Then_ret ?_ | refine noG_ret ?_))
  exact Body_end rfl rfl rfl (SubR.none _) ⟨rfl, rfl⟩
theorem queue_nil (h : PH) (p : Int) : Does Try.prog 19 [.pointer none, .int .i64 p] [] h (Ret fun r R' _ => r = .slice none 0 0 ∧ R' = []) := by
  refine Does_of_W Try.func19 rfl (n := 28) rfl rfl (by simp only [argE, Nat.reduceAdd] <;> rfl) ?_
  (repeat (first | refine W_seq ?_))
  skip
  refine W_region rfl ?_
  refine WL_is (X_assign rfl rfl) rfl rfl rfl ?_
  (repeat (first | refine WL_nil ?_ | refine Then_normal ?_ | refine W_seq ?_))
  skip
  refine W_region rfl ?_
  refine WL_is (X_move rfl rfl) rfl rfl rfl ?_
  refine WL_is (X_eqPn_t rfl rfl rfl rfl) rfl rfl rfl ?_
  refine WL_is (X_move rfl rfl) rfl rfl rfl ?_
  refine WL_off rfl rfl rfl ?_
  refine WL_off rfl rfl rfl ?_
  refine WL_is (X_pick_t rfl rfl rfl) rfl rfl rfl ?_
  refine WL_is (X_move rfl rfl) rfl rfl rfl ?_
  refine WL_off rfl rfl rfl ?_
  refine WL_off rfl rfl rfl ?_
  refine WL_off rfl rfl rfl ?_
  refine WL_off rfl rfl rfl ?_
  refine WL_off rfl rfl rfl ?_
  refine WL_off rfl rfl rfl ?_
  refine WL_off rfl rfl rfl ?_
  refine WL_is (X_pick_t rfl rfl rfl) rfl rfl rfl ?_
  (repeat (first | refine WL_nil ?_ | refine Then_normal ?_ | refine W_seq ?_ | refine W_true rfl ?_))
  skip
  refine W_region rfl ?_
  refine WL_is (X_assign rfl rfl) rfl rfl rfl ?_
  (repeat (first | refine WL_nil ?_ | refine Then_normal ?_ | refine W_ret ?_ | refine Then_ret ?_))
  exact Body_end rfl rfl rfl (SubR.none _) ⟨rfl, rfl⟩
theorem holder_nil (h : PH) (p : Int) : Does Try.prog 20 [.pointer none, .int .i64 p] [] h (Ret fun r R' _ => r = .tuple #[.int .i64 0, .bool false] ∧ R' = []) := by
  refine Does_of_W Try.func20 rfl (n := 16) rfl rfl (by simp only [argE, Nat.reduceAdd] <;> rfl) ?_
  (repeat (first | refine W_seq ?_))
  skip
  refine W_region rfl ?_
  refine WL_is (X_assign rfl rfl) rfl rfl rfl ?_
  refine WL_is (X_assign rfl rfl) rfl rfl rfl ?_
  (repeat (first | refine WL_nil ?_ | refine Then_normal ?_ | refine W_seq ?_))
  skip
  refine W_region rfl ?_
  refine WL_is (X_move rfl rfl) rfl rfl rfl ?_
  refine WL_is (X_move rfl rfl) rfl rfl rfl ?_
  refine WL_callR [] _ rfl rfl rfl Try.func19 rfl rfl rfl rfl (.refl _) (queue_nil h p) ?_
  rintro _ _ h hl_ ⟨rfl, rfl⟩
  simp only [List.nil_append]
  refine WL_is (X_assign rfl rfl) rfl rfl rfl ?_
  (repeat (first | refine WL_nil ?_ | refine Then_normal ?_ | refine W_seq ?_))
  skip
  refine W_region rfl ?_
  refine WL_is (X_move rfl rfl) rfl rfl rfl ?_
  refine WL_is (X_len rfl rfl rfl) rfl rfl rfl ?_
  refine WL_is (X_eql_t rfl rfl rfl (by omega)) rfl rfl rfl ?_
  (repeat (first | refine WL_nil ?_ | refine Then_normal ?_ | refine W_seq ?_ | refine W_true rfl ?_))
  skip
  refine W_region rfl ?_
  refine WL_is (X_assign rfl rfl) rfl rfl rfl ?_
  refine WL_is (X_assign rfl rfl) rfl rfl rfl ?_
  (repeat (first | refine WL_nil ?_ | refine Then_normal ?_ | refine W_ret ?_ | refine Then_ret ?_))
  exact Body_end rfl rfl rfl (SubR.none _) ⟨rfl, rfl⟩
theorem may_nil (h : PH) (p : Int) : Does Try.prog 22 [.pointer none, .int .i64 p] [] h (Ret fun r R' _ => r = .int .i64 1 ∧ R' = []) := by
  refine Does_of_W Try.func22 rfl (n := 19) rfl rfl (by simp only [argE, Nat.reduceAdd] <;> rfl) ?_
  (repeat (first | refine W_seq ?_))
  skip
  refine W_region rfl ?_
  refine WL_is (X_assign rfl rfl) rfl rfl rfl ?_
  (repeat (first | refine WL_nil ?_ | refine Then_normal ?_ | refine W_seq ?_ | refine W_block ?_))
  skip
  refine W_region rfl ?_
  refine WL_is (X_move rfl rfl) rfl rfl rfl ?_
  refine WL_is (X_eqPn_t rfl rfl rfl rfl) rfl rfl rfl ?_
  refine WL_is (X_assign rfl rfl) rfl rfl rfl ?_
  (repeat (first | refine WL_nil ?_ | refine Then_normal ?_ | refine W_seq ?_ | refine W_true rfl ?_))
  skip
  refine W_region rfl ?_
  refine WL_is (X_assign rfl rfl) rfl rfl rfl ?_
  (repeat (first | refine WL_nil ?_ | refine Then_normal ?_ | refine W_ret ?_ | refine Then_ret ?_ | refine inBlk_ret ?_))
  exact Body_end rfl rfl rfl (SubR.none _) ⟨rfl, rfl⟩
theorem want_nil (h : PH) (p id : Int) : Does Try.prog 13 [.pointer none, .int .i64 p, .int .i64 id] [] h (Ret fun r R' _ => r = .tuple #[.bool false, .int .i64 1] ∧ R' = []) := by
  refine Does_of_W Try.func13 rfl (n := 89) rfl rfl (by simp only [argE, Nat.reduceAdd] <;> rfl) ?_
  (repeat (first | refine W_seq ?_))
  skip
  refine W_region rfl ?_
  refine WL_is (X_assign rfl rfl) rfl rfl rfl ?_
  refine WL_is (X_assign rfl rfl) rfl rfl rfl ?_
  (repeat (first | refine WL_nil ?_ | refine Then_normal ?_ | refine W_seq ?_))
  skip
  refine W_region rfl ?_
  refine WL_is (X_move rfl rfl) rfl rfl rfl ?_
  refine WL_is (X_move rfl rfl) rfl rfl rfl ?_
  refine WL_callR [] _ rfl rfl rfl Try.func22 rfl rfl rfl rfl (.refl _) (may_nil h p) ?_
  rintro _ _ h hl_ ⟨rfl, rfl⟩
  simp only [List.nil_append]
  refine WL_is (X_assign rfl rfl) rfl rfl rfl ?_
  (repeat (first | refine WL_nil ?_ | refine Then_normal ?_ | refine W_seq ?_))
  skip
  refine W_region rfl ?_
  refine WL_is (X_move rfl rfl) rfl rfl rfl ?_
  refine WL_is (X_neq_t rfl rfl rfl (by omega)) rfl rfl rfl ?_
  (repeat (first | refine WL_nil ?_ | refine Then_normal ?_ | refine W_seq ?_ | refine W_true rfl ?_))
  skip
  refine W_region rfl ?_
  refine WL_is (X_move rfl rfl) rfl rfl rfl ?_
  refine WL_is (X_assign rfl rfl) rfl rfl rfl ?_
  refine WL_is (X_assign rfl rfl) rfl rfl rfl ?_
  (repeat (first | refine WL_nil ?_ | refine Then_normal ?_ | refine W_ret ?_ | refine Then_ret ?_))
  exact Body_end rfl rfl rfl (SubR.none _) ⟨rfl, rfl⟩
theorem free_nil (h : PH) (p : Int) : Does Try.prog 11 [.pointer none, .int .i64 p] [] h (Ret fun r R' _ => r = .int .i64 1 ∧ R' = []) := by
  refine Does_of_W Try.func11 rfl (n := 34) rfl rfl (by simp only [argE, Nat.reduceAdd] <;> rfl) ?_
  (repeat (first | refine W_seq ?_))
  skip
  refine W_region rfl ?_
  (refine WL_box rfl rfl rfl rfl rfl rfl ?_; intro b_)
  refine WL_is (X_assign rfl rfl) rfl rfl rfl ?_
  (repeat (first | refine WL_nil ?_ | refine Then_normal ?_ | refine W_seq ?_))
  skip
  refine W_region rfl ?_
  refine WL_is (X_move rfl rfl) rfl rfl rfl ?_
  refine WL_is (X_load1 rfl rfl (by exact idx0) rfl rfl) rfl rfl rfl ?_
  refine WL_callR [] _ rfl rfl rfl Try.func22 rfl rfl rfl rfl (.refl _) (may_nil h p) ?_
  rintro _ _ h hl_ ⟨rfl, rfl⟩
  simp only [List.nil_append]
  refine WL_is (X_assign rfl rfl) rfl rfl rfl ?_
  (repeat (first | refine WL_nil ?_ | refine Then_normal ?_ | refine W_seq ?_))
  skip
  refine W_region rfl ?_
  refine WL_is (X_move rfl rfl) rfl rfl rfl ?_
  refine WL_is (X_neq_t rfl rfl rfl (by omega)) rfl rfl rfl ?_
  (repeat (first | refine WL_nil ?_ | refine Then_normal ?_ | refine W_seq ?_ | refine W_true rfl ?_))
  skip
  refine W_region rfl ?_
  refine WL_is (X_move rfl rfl) rfl rfl rfl ?_
  refine WL_is (X_assign rfl rfl) rfl rfl rfl ?_
  (repeat (first | refine WL_nil ?_ | refine Then_normal ?_ | refine W_ret ?_ | refine Then_ret ?_))
  exact Body_end rfl rfl rfl (SubR.none _) ⟨rfl, rfl⟩
end Go.Proofs.Ytgbcdjofkfdgnaa
