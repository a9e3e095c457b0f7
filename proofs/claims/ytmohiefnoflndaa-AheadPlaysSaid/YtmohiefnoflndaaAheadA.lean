/- Words ahead: the table of words; put, done, load, length. -/
import Derived.Test.YtmohiefnoflndaaEngN
import Derived.Test.YtmohiefnoflndaaBase
namespace Go.Proofs.Ytmohiefnoflndaa
set_option maxRecDepth 4000
open Go Go.Par PH
def encR (x : Int × Int) : List Value := [.int .i64 x.1, .int .u64 x.2]
def ekI (k : Int) : Value := .int .i64 k
def evW (v : Int) : Value := .int .u64 v
theorem elemR : ElemT Try.prog 28 38 2 16 := ElemT.mk' rfl rfl
theorem lenR (l : List (Int × Int)) : ∀ x ∈ l, (encR x).length = 2 := fun _ _ => rfl
theorem flatR (l : List (Int × Int)) : ∀ x ∈ l, (encR x).all flat = true := fun _ _ => rfl
theorem keyI {t : TypeId} (h : Try.prog.underlying t = some (.int .i64)) : ∃ K : KeyD Try.prog t ekI, True := ⟨keyInt h, trivial⟩
/-- A pointer to a block. -/
def ptB (b : Nat) : Value := .pointer (some ⟨b, 0, none⟩)
def tabR (ab mb : Nat) (T : List (Int × Int)) : List SL := [blk ab [.map (some mb)] 52, mpB ekI evW mb T]
def negL (l : List (Int × Int)) : Bool := l.any fun x => decide (x.1 < 0)
def putT (T l : List (Int × Int)) : List (Int × Int) := l.foldl (fun T x => upM T x.1 x.2) T
theorem putT_succ (T l : List (Int × Int)) {j : Nat} (hj : j < l.length) : putT T (l.take (j + 1)) = upM (putT T (l.take j)) l[j].1 l[j].2 := by
  unfold putT
  rw [List.take_add_one, List.getElem?_eq_getElem hj, Option.toList_some, List.foldl_append]; rfl
attribute [local irreducible] W WL Does Exec Body Then inBlk RG WR row obj pblk
theorem putf_fn (h : PH) (x : Int × Int) : Does Try.prog 20 [.agg (encR x).toArray] [] h (Ret fun r _ _ => r = .bool (decide (x.1 < 0))) := by
  unfold encR
  refine Does_of_W Try.func20 rfl (n := 6) rfl rfl (by simp only [argE] <;> rfl) ?_
  by_cases hx : x.1 < 0
  · (repeat (first | refine W_seq ?_))
    skip
    refine W_region rfl ?_
    (refine WL_box rfl rfl rfl rfl rfl rfl ?_; intro b_)
    refine WL_is (X_assign rfl rfl) rfl rfl rfl ?_
    (repeat (first | refine WL_nil ?_ | refine Then_normal ?_ | refine W_seq ?_))
    skip
    refine W_region rfl ?_
    refine WL_is (X_fieldAddr rfl rfl rfl (by simp only [Nat.zero_add] <;> rfl)) rfl rfl rfl ?_
    refine WL_is (X_load1 rfl rfl (by exact idx0) rfl rfl) rfl rfl rfl ?_
    refine WL_is (X_lss_t rfl rfl rfl (by omega)) rfl rfl rfl ?_
    refine WL_is (X_assign rfl rfl) rfl rfl rfl ?_
    (repeat (first | refine WL_nil ?_ | refine Then_normal ?_ | refine W_ret ?_))
    refine Body_end rfl rfl rfl (SubR.none _) ?_
    simp [hx]
  · (repeat (first | refine W_seq ?_))
    skip
    refine W_region rfl ?_
    (refine WL_box rfl rfl rfl rfl rfl rfl ?_; intro b_)
    refine WL_is (X_assign rfl rfl) rfl rfl rfl ?_
    (repeat (first | refine WL_nil ?_ | refine Then_normal ?_ | refine W_seq ?_))
    skip
    refine W_region rfl ?_
    refine WL_is (X_fieldAddr rfl rfl rfl (by simp only [Nat.zero_add] <;> rfl)) rfl rfl rfl ?_
    refine WL_is (X_load1 rfl rfl (by exact idx0) rfl rfl) rfl rfl rfl ?_
    refine WL_is (X_lss_f rfl rfl rfl (by omega)) rfl rfl rfl ?_
    refine WL_is (X_assign rfl rfl) rfl rfl rfl ?_
    (repeat (first | refine WL_nil ?_ | refine Then_normal ?_ | refine W_ret ?_))
    refine Body_end rfl rfl rfl (SubR.none _) ?_
    simp [hx]
set_option maxHeartbeats 1000000 in
theorem ind_fn (h : PH) (v : Value) (l : List (Int × Int)) (hv : Sl encR 2 h v l) (hl : l.length ≤ 4000000000000000000) : Does Try.prog 25 [v, .func (.func 20) #[] #[]] [] h (Ret fun r R' _ => (∃ k, r = .int .i64 k ∧ (0 ≤ k ↔ negL l = true)) ∧ R' = []) := by
  obtain ⟨a, c, rfl⟩ := hv.shape
  refine Does_of_W Try.func25 rfl (n := 19) rfl rfl (by simp only [argE, Nat.reduceAdd] <;> rfl) ?_
  (repeat (first | refine W_seq ?_))
  skip
  refine W_region rfl ?_
  refine WL_is (X_assign rfl rfl) rfl rfl rfl ?_
  (repeat (first | refine WL_nil ?_ | refine Then_normal ?_ | refine W_seq ?_))
  skip
  refine W_region rfl ?_
  refine WL_is (X_move rfl rfl) rfl rfl rfl ?_
  refine WL_is (X_len_sl rfl rfl rfl (by assumption)) rfl rfl rfl ?_
  refine WL_is (X_move rfl rfl) rfl rfl rfl ?_
  (repeat (first | refine WL_nil ?_ | refine Then_normal ?_ | refine W_block ?_))
  refine W_loop (X := Nat) (L := fun i => ⟨[(8, .int .i64 (i : Int)), (7, .int .i64 (l.length : Int)), (0, .slice a l.length c), (1, .func (.func 20) #[] #[])], [], [], h⟩) (p := fun i => i ≤ l.length ∧ negL (l.take i) = false) (μ := fun i => l.length - i) 0 ⟨(by repeat (first | exact SubE_nil | refine SubE_cons rfl ?_)), rfl, SubR.refl _, rfl⟩ ⟨Nat.zero_le _, rfl⟩ ?_
  rintro i ⟨hi, hno⟩
  by_cases hil : i < l.length
  · have hpf := putf_fn h l[i]
    have hta : negL (l.take (i + 1)) = decide (l[i].1 < 0) := by
      unfold negL at hno ⊢
      rw [List.take_add_one, List.getElem?_eq_getElem hil, Option.toList_some, List.any_append, hno]; simp
    by_cases hx : l[i].1 < 0
    · rw [decide_eq_true hx] at hpf
      have hneg : negL l = true := by
        rw [decide_eq_true hx] at hta
        unfold negL at hta ⊢
        rw [List.any_eq_true] at hta ⊢
        obtain ⟨y, hy, h2⟩ := hta
        exact ⟨y, List.take_subset _ _ hy, h2⟩
      (repeat (first | refine W_seq ?_))
      refine W_region rfl ?_
      refine WL_is (X_lss_t rfl rfl rfl (by omega)) rfl rfl rfl ?_
      (repeat (first | refine WL_nil ?_ | refine Then_normal ?_ | refine W_seq ?_ | refine W_skip ?_ | refine W_block ?_ | refine W_true rfl ?_))
      skip
      refine W_region rfl ?_
      refine WL_is (X_move rfl rfl) rfl rfl rfl ?_
      refine WL_is (X_assign rfl rfl) rfl rfl rfl ?_
      (repeat (first | refine WL_nil ?_ | refine Then_normal ?_ | refine W_seq ?_))
      skip
      refine W_region rfl ?_
      refine WL_is (X_move rfl rfl) rfl rfl rfl ?_
      refine WL_is (X_move rfl rfl) rfl rfl rfl ?_
      refine WL_is (X_move rfl rfl) rfl rfl rfl ?_
      (refine WL_index_slN rfl rfl rfl rfl rfl (by assumption) (by omega) rfl rfl rfl ?_; intro p_ hp_)
      refine WL_is (X_loadA_at rfl rfl (by assumption) rfl rfl rfl) rfl rfl rfl ?_
      refine WL_is (X_callv rfl rfl rfl Try.func20 rfl hpf) rfl rfl rfl ?_
      (repeat (first | refine WL_nil ?_ | refine Then_normal ?_ | refine W_seq ?_ | refine W_true rfl ?_))
      skip
      refine W_region rfl ?_
      refine WL_is (X_move rfl rfl) rfl rfl rfl ?_
      refine WL_is (X_assign rfl rfl) rfl rfl rfl ?_
      (repeat (first | refine WL_nil ?_ | refine Then_normal ?_ | refine W_ret ?_ | refine Then_ret ?_ | refine inBlk_ret ?_))
      refine Body_end rfl rfl rfl (SubR.none _) ?_
      exact ⟨⟨_, rfl, by rw [hneg]; simp⟩, rfl⟩
    · rw [decide_eq_false hx] at hpf hta
      (repeat (first | refine W_seq ?_))
      refine W_region rfl ?_
      refine WL_is (X_lss_t rfl rfl rfl (by omega)) rfl rfl rfl ?_
      (repeat (first | refine WL_nil ?_ | refine Then_normal ?_ | refine W_seq ?_ | refine W_skip ?_ | refine W_block ?_ | refine W_true rfl ?_))
      skip
      refine W_region rfl ?_
      refine WL_is (X_move rfl rfl) rfl rfl rfl ?_
      refine WL_is (X_assign rfl rfl) rfl rfl rfl ?_
      (repeat (first | refine WL_nil ?_ | refine Then_normal ?_ | refine W_seq ?_))
      skip
      refine W_region rfl ?_
      refine WL_is (X_move rfl rfl) rfl rfl rfl ?_
      refine WL_is (X_move rfl rfl) rfl rfl rfl ?_
      refine WL_is (X_move rfl rfl) rfl rfl rfl ?_
      (refine WL_index_slN rfl rfl rfl rfl rfl (by assumption) (by omega) rfl rfl rfl ?_; intro p_ hp_)
      refine WL_is (X_loadA_at rfl rfl (by assumption) rfl rfl rfl) rfl rfl rfl ?_
      refine WL_is (X_callv rfl rfl rfl Try.func20 rfl hpf) rfl rfl rfl ?_
      (repeat (first | refine WL_nil ?_ | refine Then_normal ?_ | refine W_skip ?_ | refine inBlk_normal ?_ | refine W_false rfl ?_))
      skip
      refine W_region rfl ?_
      refine WL_is (X_addW rfl rfl rfl (by exact wrap_i64_in (by omega) (by omega))) rfl rfl rfl ?_
      refine WL_is (X_move rfl rfl) rfl rfl rfl ?_
      (repeat (first | refine WL_nil ?_ | refine Then_normal ?_))
      exact ⟨i + 1, ⟨(by repeat (first | exact SubE_nil | refine SubE_cons rfl ?_)), rfl, SubR.refl _, rfl⟩, ⟨hil, hta⟩, by omega⟩
  · have hie : i = l.length := by omega
    subst hie
    rw [List.take_length] at hno
    (repeat (first | refine W_seq ?_))
    refine W_region rfl ?_
    refine WL_is (X_lss_f rfl rfl rfl (by omega)) rfl rfl rfl ?_
    (repeat (first | refine WL_nil ?_ | refine Then_normal ?_ | refine W_seq ?_ | refine W_exit ?_ | refine Then_exit ?_ | refine inBlk_here ?_ | refine W_false rfl ?_))
    skip
    refine W_region rfl ?_
    refine WL_is (X_assign rfl rfl) rfl rfl rfl ?_
    (repeat (first | refine WL_nil ?_ | refine Then_normal ?_ | refine W_ret ?_))
    refine Body_end rfl rfl rfl (SubR.none _) ?_
    exact ⟨⟨-1, rfl, by rw [hno]; simp⟩, rfl⟩
theorem cont_fn (h : PH) (v : Value) (l : List (Int × Int)) (hv : Sl encR 2 h v l) (hl : l.length ≤ 4000000000000000000) : Does Try.prog 19 [v, .func (.func 20) #[] #[]] [] h (Ret fun r _ _ => r = .bool (negL l)) := by
  have hin := ind_fn h v l hv hl
  refine Does_of_W Try.func19 rfl (n := 9) rfl rfl (by simp only [argE, Nat.reduceAdd] <;> rfl) ?_
  (repeat (first | refine W_seq ?_))
  skip
  refine W_region rfl ?_
  refine WL_is (X_assign rfl rfl) rfl rfl rfl ?_
  (repeat (first | refine WL_nil ?_ | refine Then_normal ?_ | refine W_seq ?_))
  skip
  refine W_region rfl ?_
  refine WL_is (X_move rfl rfl) rfl rfl rfl ?_
  refine WL_is (X_move rfl rfl) rfl rfl rfl ?_
  refine WL_call rfl rfl rfl Try.func25 rfl rfl rfl rfl hin ?_
  rintro _ _ H1 L1 ⟨⟨k, rfl, hk⟩, rfl⟩
  simp only [List.nil_append]
  by_cases h0 : k ≥ 0
  · rw [hk.1 h0]
    refine WL_is (X_geq_t rfl rfl rfl (by omega)) rfl rfl rfl ?_
    refine WL_is (X_assign rfl rfl) rfl rfl rfl ?_
    (repeat (first | refine WL_nil ?_ | refine Then_normal ?_ | refine W_ret ?_))
    refine Body_end rfl rfl rfl (SubR.none _) ?_
    rfl
  · have : negL l = false := by
      cases hn : negL l with
      | false => rfl
      | true => exact absurd (hk.2 hn) (by omega)
    rw [this]
    refine WL_is (X_geq_f rfl rfl rfl (by omega)) rfl rfl rfl ?_
    refine WL_is (X_assign rfl rfl) rfl rfl rfl ?_
    (repeat (first | refine WL_nil ?_ | refine Then_normal ?_ | refine W_ret ?_))
    refine Body_end rfl rfl rfl (SubR.none _) ?_
    rfl
theorem new_fn (h : PH) : Does Try.prog 9 [] [] h (Ret fun r R' h' => ∃ ab mb, r = ptB ab ∧ R' = tabR ab mb [] ∧ h' = h) := by
  refine Does_of_W Try.func9 rfl (n := 4) rfl rfl (by simp only [argE] <;> rfl) ?_
  (repeat (first | refine W_seq ?_))
  skip
  refine W_region rfl ?_
  refine WL_is (X_assign rfl rfl) rfl rfl rfl ?_
  (repeat (first | refine WL_nil ?_ | refine Then_normal ?_ | refine W_seq ?_))
  skip
  refine W_region rfl ?_
  refine WL_any (X_makeMapB (ek := ekI) (ev := evW) rfl) rfl rfl rfl ?_
  rintro _ _ h' - ⟨mb, rfl, rfl, rfl⟩
  refine WL_is (X_build rfl rfl rfl) rfl rfl rfl ?_
  (refine WL_box rfl rfl rfl rfl rfl rfl ?_; intro b_)
  refine WL_is (X_assign rfl rfl) rfl rfl rfl ?_
  (repeat (first | refine WL_nil ?_ | refine Then_normal ?_ | refine W_ret ?_))
  refine Body_vals (.cons (.tmp rfl) .nil) rfl ?_
  exact UpdE.of (Upd.sub (SubR.refl _)) ⟨_, _, rfl, rfl, rfl⟩
set_option maxHeartbeats 1000000 in
theorem put_fn (h : PH) (ab mb : Nat) (T l : List (Int × Int)) (v : Value) (hv : Sl encR 2 h v l) (hl : l.length ≤ 4000000000000000000) : Does Try.prog 10 [ptB ab, v] (tabR ab mb T) h (Ret fun r R' h' => r = .int .i64 (if negL l = true then 2 else 0) ∧ R' = tabR ab mb (if negL l = true then T else putT T l) ∧ h' = h) := by
  have hco := cont_fn h v l hv hl
  obtain ⟨a, c, rfl⟩ := hv.shape
  unfold tabR ptB
  refine Does_of_W Try.func10 rfl (n := 26) rfl rfl (by simp only [argE, Nat.reduceAdd] <;> rfl) ?_
  cases hn : negL l with
  | true =>
    rw [hn] at hco
    (repeat (first | refine W_seq ?_))
    skip
    refine W_region rfl ?_
    refine WL_is (X_assign rfl rfl) rfl rfl rfl ?_
    (repeat (first | refine WL_nil ?_ | refine Then_normal ?_ | refine W_seq ?_))
    skip
    refine W_region rfl ?_
    refine WL_is (X_move rfl rfl) rfl rfl rfl ?_
    refine WL_is (X_eqPn_f rfl rfl rfl rfl) rfl rfl rfl ?_
    (repeat (first | refine WL_nil ?_ | refine Then_normal ?_ | refine W_seq ?_ | refine W_skip ?_ | refine W_false rfl ?_))
    skip
    refine W_region rfl ?_
    refine WL_is (X_move rfl rfl) rfl rfl rfl ?_
    refine WL_is (X_callv rfl rfl rfl Try.func19 rfl (by assumption)) rfl rfl rfl ?_
    (repeat (first | refine WL_nil ?_ | refine Then_normal ?_ | refine W_seq ?_ | refine W_true rfl ?_))
    skip
    refine W_region rfl ?_
    refine WL_is (X_assign rfl rfl) rfl rfl rfl ?_
    (repeat (first | refine WL_nil ?_ | refine Then_normal ?_ | refine W_ret ?_ | refine Then_ret ?_))
    refine Body_vals (.cons (.tmp rfl) .nil) rfl ?_
    exact UpdE.of (Upd.sub (SubR.refl _)) ⟨rfl, rfl, rfl⟩
  | false =>
    rw [hn] at hco
    (repeat (first | refine W_seq ?_))
    skip
    refine W_region rfl ?_
    refine WL_is (X_assign rfl rfl) rfl rfl rfl ?_
    (repeat (first | refine WL_nil ?_ | refine Then_normal ?_ | refine W_seq ?_))
    skip
    refine W_region rfl ?_
    refine WL_is (X_move rfl rfl) rfl rfl rfl ?_
    refine WL_is (X_eqPn_f rfl rfl rfl rfl) rfl rfl rfl ?_
    (repeat (first | refine WL_nil ?_ | refine Then_normal ?_ | refine W_seq ?_ | refine W_skip ?_ | refine W_false rfl ?_))
    skip
    refine W_region rfl ?_
    refine WL_is (X_move rfl rfl) rfl rfl rfl ?_
    refine WL_is (X_callv rfl rfl rfl Try.func19 rfl (by assumption)) rfl rfl rfl ?_
    (repeat (first | refine WL_nil ?_ | refine Then_normal ?_ | refine W_seq ?_ | refine W_skip ?_ | refine W_false rfl ?_))
    skip
    refine W_region rfl ?_
    refine WL_is (X_move rfl rfl) rfl rfl rfl ?_
    refine WL_is (X_len_sl rfl rfl rfl (by assumption)) rfl rfl rfl ?_
    refine WL_is (X_move rfl rfl) rfl rfl rfl ?_
    (repeat (first | refine WL_nil ?_ | refine Then_normal ?_ | refine W_block ?_))
    refine W_loop (X := Nat) (L := fun i => ⟨[(13, .int .i64 (i : Int)), (12, .int .i64 (l.length : Int)), (11, .slice a l.length c), (0, .pointer (some ⟨ab, 0, none⟩))], [], [blk ab [.map (some mb)] 52, mpB ekI evW mb (putT T (l.take i))], h⟩) (p := fun i => i ≤ l.length) (μ := fun i => l.length - i) 0 ⟨(by repeat (first | exact SubE_nil | refine SubE_cons rfl ?_)), rfl, SubR.refl _, rfl⟩ (Nat.zero_le _) ?_
    rintro i hi
    by_cases hil : i < l.length
    · have hsu := putT_succ T l hil
      (repeat (first | refine W_seq ?_))
      refine W_region rfl ?_
      refine WL_is (X_lss_t rfl rfl rfl (by omega)) rfl rfl rfl ?_
      (repeat (first | refine WL_nil ?_ | refine Then_normal ?_ | refine W_seq ?_ | refine W_skip ?_ | refine W_block ?_ | refine W_true rfl ?_))
      skip
      refine W_region rfl ?_
      (refine WL_index_slN rfl rfl rfl rfl rfl (by assumption) (by omega) rfl rfl rfl ?_; intro p_ hp_)
      refine WL_is (X_loadA_at rfl rfl (by assumption) rfl rfl rfl) rfl rfl rfl ?_
      (refine WL_alloc rfl rfl rfl rfl rfl rfl ?_; intro b_)
      refine WL_store rfl rfl rfl (by exact idx0) rfl rfl rfl rfl rfl rfl rfl rfl rfl ?_
      (repeat (first | refine WL_nil ?_ | refine Then_normal ?_))
      skip
      refine W_draw0 8 rfl rfl rfl rfl ?_
      refine RG_val rfl rfl (fun _ => rfl) (fun _ => X_move rfl rfl) ?_
      refine RG_val rfl rfl (fun _ => rfl) (fun _ => X_nilCheck rfl rfl) ?_
      refine RG_val rfl rfl (fun _ => rfl) (fun _ => X_fieldAddr rfl rfl rfl (by simp only [Nat.zero_add] <;> rfl)) ?_
      refine RG_val rfl rfl (fun _ => rfl) (fun _ => X_load1 rfl rfl (by exact idx1) rfl rfl) ?_
      refine RG_val rfl rfl (fun _ => rfl) (fun _ => X_fieldAddr rfl rfl rfl (by simp only [Nat.zero_add] <;> rfl)) ?_
      refine RG_val rfl rfl (fun _ => rfl) (fun _ => X_load1 rfl rfl (by exact idx0) rfl rfl) ?_
      refine RG_val rfl rfl (fun _ => rfl) (fun _ => X_fieldAddr rfl rfl rfl (by simp only [Nat.zero_add] <;> rfl)) ?_
      refine RG_val rfl rfl (fun _ => rfl) (fun _ => X_load1 rfl rfl (by exact idx0) rfl rfl) ?_
      refine RG_nil ?_
      refine RG_endv rfl (fun vs => by simp only [endE, List.cons_append, List.nil_append] <;> rfl) (fun vs => rfl) ?_
      refine WL_mapUpdateB (ek := ekI) (ev := evW) rfl rfl (keyInt rfl) rfl (k := l[i].1) (v := l[i].2) rfl rfl idx2 rfl rfl ?_
      simp only [List.set_cons_zero, List.set_cons_succ]
      refine WL_nil ?_
      (repeat (first | refine Then_normal ?_ | refine inBlk_normal ?_))
      skip
      refine W_region rfl ?_
      refine WL_is (X_addW rfl rfl rfl (by exact wrap_i64_in (by omega) (by omega))) rfl rfl rfl ?_
      refine WL_is (X_move rfl rfl) rfl rfl rfl ?_
      (repeat (first | refine WL_nil ?_ | refine Then_normal ?_))
      refine ⟨i + 1, ⟨(by repeat (first | exact SubE_nil | refine SubE_cons rfl ?_)), rfl, .skip _ ?_, rfl⟩, hil, by omega⟩
      rw [hsu]; exact SubR.refl _
    · have hie : i = l.length := by omega
      subst hie
      (repeat (first | refine W_seq ?_))
      refine W_region rfl ?_
      refine WL_is (X_lss_f rfl rfl rfl (by omega)) rfl rfl rfl ?_
      (repeat (first | refine WL_nil ?_ | refine Then_normal ?_ | refine W_seq ?_ | refine W_exit ?_ | refine Then_exit ?_ | refine inBlk_here ?_ | refine W_false rfl ?_))
      skip
      refine W_region rfl ?_
      refine WL_is (X_assign rfl rfl) rfl rfl rfl ?_
      (repeat (first | refine WL_nil ?_ | refine Then_normal ?_ | refine W_ret ?_))
      refine Body_vals (.cons (.tmp rfl) .nil) rfl ?_
      refine UpdE.of (Upd.sub (SubR.refl _)) ⟨rfl, ?_, rfl⟩
      rw [List.take_length]; rfl
end Go.Proofs.Ytmohiefnoflndaa
