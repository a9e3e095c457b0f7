/- Locks: a table as what is owned, lent while it is looked at. -/
import Derived.Test.YtgbcdjofkfdgnaaLockB
namespace Go.Proofs.Ytgbcdjofkfdgnaa
open Go Go.Par PH
def queueAt (qs : List (List Int)) (id : Int) : List Int := if 0 ≤ id ∧ id < qs.length then (qs[id.toNat]?).getD [] else []
theorem queueAt_nat {qs : List (List Int)} {k : Nat} (hk : k < qs.length) : queueAt qs (k : Int) = qs[k] := by
  unfold queueAt
  rw [if_pos (by omega)]; simp [hk]
def zipR (vs : List Value) (qs : List (List Int)) : List SL := List.zipWith (fun v q => rowL encI v 3 1 q) vs qs
def zipG (vs : List Value) (qs : List (List Int)) : SL := fun g => stars (zipR vs qs) g
/-- A table. -/
def tabL (t : TypeId) (b : Nat) (qs : List (List Int)) (procs : Int) : SL := fun g => ∃ v vs, vs.length = qs.length ∧ stars [blk b [v, .int .i64 procs] t, rowL encV v 40 1 vs, zipG vs qs] g
theorem zip_sl {vs : List Value} {qs : List (List Int)} {g h : PH} (hs : stars (zipR vs qs) g) (hle : le g h) : ∀ i (hi : i < vs.length) (hi' : i < qs.length), Sl encI 1 h vs[i] qs[i] := by
  induction vs generalizing qs g with
  | nil => intro i hi; simp at hi
  | cons v vs ih =>
    cases qs with
    | nil => intro i _ hi'; simp at hi'
    | cons q qs =>
      obtain ⟨a, c, rfl, hd, ha, hc⟩ := hs
      intro i hi hi'
      cases i with
      | zero => exact Sl_of_row ha ((le_un_left _ _).trans hle) (lenI _)
      | succ i => exact ih hc ((le_un_right hd).trans hle) i (by simpa using hi) (by simpa using hi')
structure QOk (qs : List (List Int)) : Prop where
  small : qs.length ≤ 1000
  short : ∀ q ∈ qs, q.length ≤ 100000
theorem tab_known {t : TypeId} {b : Nat} {qs : List (List Int)} {procs : Int} {g h : PH} (hs : tabL t b qs procs g) (hle : le g h) (ok : QOk qs) : ∃ v vs, Known h (.pointer (some ⟨b, 0, none⟩)) v vs qs procs := by
  obtain ⟨v, vs, hl, g1, g2, rfl, hd, r1, g3, g4, rfl, hd2, r2, g5, g6, rfl, hd3, r3, _⟩ := hs
  have h2 := (le_un_right hd).trans hle
  refine ⟨v, vs, ?_, Sl_of_row r2 ((le_un_left _ _).trans h2) (lenV _), hl, zip_sl r3 (((le_un_left _ _).trans (le_un_right hd2)).trans h2), ok.small, ok.short⟩
  have r1 : g1 = one b (.cells #[v, .int .i64 procs] t (0, 0)) := r1
  exact ⟨b, 0, [v, .int .i64 procs], t, (0, 0), rfl, hle _ _ (le_un_left _ _ _ _ (by rw [r1]; simp [one])), fun j hj => by simp⟩
/-- A table lent for a call that looks at it. -/
theorem lend {t : TypeId} {b : Nat} {qs : List (List Int)} {procs : Int} {f : FuncId} {args : List Value} {h : PH} {A : Value → List SL → Prop} (ok : QOk qs)
    (H : ∀ h v vs, Known h (.pointer (some ⟨b, 0, none⟩)) v vs qs procs → Does Try.prog f args [] h (Ret fun r R' _ => A r R')) :
    Does Try.prog f args [tabL t b qs procs] h (Ret fun r R' _ => ∃ R1, R' = tabL t b qs procs :: R1 ∧ A r R1) :=
  Does.borrow (R := [tabL t b qs procs]) fun g hg hle => by
    obtain ⟨g1, g2, rfl, _, hg1, hg2⟩ := hg
    have hg2 : g2 = none_ := hg2
    subst hg2
    rw [un_none_right] at hle ⊢
    obtain ⟨v, vs, K⟩ := tab_known hg1 hle ok
    exact H _ v vs K
attribute [local irreducible] W WL Does Exec Body Then inBlk RG WR row obj pblk
set_option maxHeartbeats 1000000 in
theorem queue_fn (h : PH) (b : Nat) (v : Value) (vs : List Value) (qs : List (List Int)) (procs id : Int) (K : Known h (.pointer (some ⟨b, 0, none⟩)) v vs qs procs) :
    Does Try.prog 19 [.pointer (some ⟨b, 0, none⟩), .int .i64 id] [] h (Ret fun r R' _ => R' = [rowL encI r 3 1 (queueAt qs id)]) := by
  obtain ⟨hb, hv, hlen, hq, hsm, hsh⟩ := K
  obtain ⟨a, cap, rfl⟩ := hv.shape
  refine Does_of_W Try.func19 rfl (n := 28) rfl rfl (by simp only [argE, Nat.reduceAdd] <;> rfl) ?_
  by_cases h1 : 0 ≤ id
  · by_cases h2 : id < vs.length
    · obtain ⟨k, rfl⟩ : ∃ k : Nat, id = (k : Int) := ⟨id.toNat, by omega⟩
      have hk : k < vs.length := by omega
      have hk' : k < qs.length := by omega
      have hqk := hq k hk hk'
      have hshk := hsh _ (List.getElem_mem hk')
      rw [queueAt_nat hk']
      have hc := clone_fn h qs[k] vs[k] hqk (by omega)
      (repeat (first | refine W_seq ?_))
      skip
      refine W_region rfl ?_
      refine WL_is (X_assign rfl rfl) rfl rfl rfl ?_
      (repeat (first | refine WL_nil ?_ | refine Then_normal ?_ | refine W_seq ?_))
      skip
      refine W_region rfl ?_
      refine WL_is (X_move rfl rfl) rfl rfl rfl ?_
      refine WL_is (X_eqPn_f rfl rfl rfl rfl) rfl rfl rfl ?_
      refine WL_is (X_move rfl rfl) rfl rfl rfl ?_
      refine WL_is (X_move rfl rfl) rfl rfl rfl ?_
      refine WL_is (X_lss_f rfl rfl rfl (by omega)) rfl rfl rfl ?_
      refine WL_is (X_pick_f rfl rfl rfl) rfl rfl rfl ?_
      refine WL_is (X_move rfl rfl) rfl rfl rfl ?_
      refine WL_is (X_move rfl rfl) rfl rfl rfl ?_
      refine WL_is (X_move rfl rfl) rfl rfl rfl ?_
      refine WL_is (X_nilCheck rfl rfl) rfl rfl rfl ?_
      refine WL_is (X_fieldAddr rfl rfl rfl (by simp only [Nat.zero_add] <;> rfl)) rfl rfl rfl ?_
      refine WL_is (X_load1_at rfl rfl (by assumption) rfl rfl) rfl rfl rfl ?_
      refine WL_is (X_len_sl rfl rfl rfl (by assumption)) rfl rfl rfl ?_
      refine WL_is (X_geq_f rfl rfl rfl (by omega)) rfl rfl rfl ?_
      refine WL_is (X_pick_f rfl rfl rfl) rfl rfl rfl ?_
      (repeat (first | refine WL_nil ?_ | refine Then_normal ?_ | refine W_seq ?_ | refine W_skip ?_ | refine W_false rfl ?_))
      skip
      refine W_region rfl ?_
      refine WL_is (X_move rfl rfl) rfl rfl rfl ?_
      refine WL_is (X_nilCheck rfl rfl) rfl rfl rfl ?_
      refine WL_is (X_fieldAddr rfl rfl rfl (by simp only [Nat.zero_add] <;> rfl)) rfl rfl rfl ?_
      refine WL_is (X_load1_at rfl rfl (by assumption) rfl rfl) rfl rfl rfl ?_
      refine WL_is (X_move rfl rfl) rfl rfl rfl ?_
      (refine WL_index_slN rfl rfl rfl rfl rfl (by assumption) (by omega) rfl rfl rfl ?_; intro p_ hp_)
      refine WL_is (X_load1_at rfl rfl (by assumption) rfl rfl) rfl rfl rfl ?_
      refine WL_callR [] _ rfl rfl rfl Try.func29 rfl rfl rfl rfl (.refl _) hc ?_
      rintro r _ h2 hl2 ⟨⟨ra, rc, rfl⟩, rfl⟩
      simp only [List.append_nil]
      refine WL_is (X_assign rfl rfl) rfl rfl rfl ?_
      (repeat (first | refine WL_nil ?_ | refine Then_normal ?_ | refine W_ret ?_))
      exact Body_end rfl rfl rfl (SubR.refl _) rfl
    · have hn : queueAt qs id = [] := by unfold queueAt; rw [if_neg (by omega)]
      rw [hn]
      (repeat (first | refine W_seq ?_))
      skip
      refine W_region rfl ?_
      refine WL_is (X_assign rfl rfl) rfl rfl rfl ?_
      (repeat (first | refine WL_nil ?_ | refine Then_normal ?_ | refine W_seq ?_))
      skip
      refine W_region rfl ?_
      refine WL_is (X_move rfl rfl) rfl rfl rfl ?_
      refine WL_is (X_eqPn_f rfl rfl rfl rfl) rfl rfl rfl ?_
      refine WL_is (X_move rfl rfl) rfl rfl rfl ?_
      refine WL_is (X_move rfl rfl) rfl rfl rfl ?_
      refine WL_is (X_lss_f rfl rfl rfl (by omega)) rfl rfl rfl ?_
      refine WL_is (X_pick_f rfl rfl rfl) rfl rfl rfl ?_
      refine WL_is (X_move rfl rfl) rfl rfl rfl ?_
      refine WL_is (X_move rfl rfl) rfl rfl rfl ?_
      refine WL_is (X_move rfl rfl) rfl rfl rfl ?_
      refine WL_is (X_nilCheck rfl rfl) rfl rfl rfl ?_
      refine WL_is (X_fieldAddr rfl rfl rfl (by simp only [Nat.zero_add] <;> rfl)) rfl rfl rfl ?_
      refine WL_is (X_load1_at rfl rfl (by assumption) rfl rfl) rfl rfl rfl ?_
      refine WL_is (X_len_sl rfl rfl rfl (by assumption)) rfl rfl rfl ?_
      refine WL_is (X_geq_t rfl rfl rfl (by omega)) rfl rfl rfl ?_
      refine WL_is (X_pick_f rfl rfl rfl) rfl rfl rfl ?_
      (repeat (first | refine WL_nil ?_ | refine Then_normal ?_ | refine W_seq ?_ | refine W_true rfl ?_))
      skip
      refine W_region rfl ?_
      refine WL_is (X_assign rfl rfl) rfl rfl rfl ?_
      (repeat (first | refine WL_nil ?_ | refine Then_normal ?_ | refine W_ret ?_ | refine Then_ret ?_))
      refine Body_vals (.cons (.tmp rfl) .nil) rfl ?_
      exact UpdE.of (Upd.nilrow (e := 3) (sz := 1)) rfl
  · have hn : queueAt qs id = [] := by unfold queueAt; rw [if_neg (by omega)]
    rw [hn]
    (repeat (first | refine W_seq ?_))
    skip
    refine W_region rfl ?_
    refine WL_is (X_assign rfl rfl) rfl rfl rfl ?_
    (repeat (first | refine WL_nil ?_ | refine Then_normal ?_ | refine W_seq ?_))
    skip
    refine W_region rfl ?_
    refine WL_is (X_move rfl rfl) rfl rfl rfl ?_
    refine WL_is (X_eqPn_f rfl rfl rfl rfl) rfl rfl rfl ?_
    refine WL_is (X_move rfl rfl) rfl rfl rfl ?_
    refine WL_is (X_move rfl rfl) rfl rfl rfl ?_
    refine WL_is (X_lss_t rfl rfl rfl (by omega)) rfl rfl rfl ?_
    refine WL_is (X_pick_f rfl rfl rfl) rfl rfl rfl ?_
    refine WL_is (X_move rfl rfl) rfl rfl rfl ?_
    refine WL_off rfl rfl rfl ?_
    refine WL_off rfl rfl rfl ?_
    refine WL_off rfl rfl rfl ?_
    refine WL_off rfl rfl rfl ?_
    refine WL_off rfl rfl rfl ?_
    refine WL_off rfl rfl rfl ?_
    refine WL_off rfl rfl rfl ?_
    refine WL_is (X_pick_t rfl rfl rfl) rfl rfl rfl ?_
    (repeat (first | refine WL_nil ?_ | refine Then_normal ?_ | refine W_seq ?_ | refine W_true rfl ?_))
    skip
    refine W_region rfl ?_
    refine WL_is (X_assign rfl rfl) rfl rfl rfl ?_
    (repeat (first | refine WL_nil ?_ | refine Then_normal ?_ | refine W_ret ?_ | refine Then_ret ?_))
    refine Body_vals (.cons (.tmp rfl) .nil) rfl ?_
    exact UpdE.of (Upd.nilrow (e := 3) (sz := 1)) rfl
def holderV (q : List Int) : Value := match q with | [] => .tuple #[.int .i64 0, .bool false] | x :: _ => .tuple #[.int .i64 x, .bool true]
set_option maxHeartbeats 1000000 in
theorem holder_fn (h : PH) (b : Nat) (v : Value) (vs : List Value) (qs : List (List Int)) (procs id : Int) (K : Known h (.pointer (some ⟨b, 0, none⟩)) v vs qs procs) :
    Does Try.prog 20 [.pointer (some ⟨b, 0, none⟩), .int .i64 id] [] h (Ret fun r R' _ => r = holderV (queueAt qs id) ∧ R' = []) := by
  have hc := queue_fn h b v vs qs procs id K
  generalize queueAt qs id = q at hc ⊢
  refine Does_of_W Try.func20 rfl (n := 16) rfl rfl (by simp only [argE, Nat.reduceAdd] <;> rfl) ?_
  (repeat (first | refine W_seq ?_))
  skip
  refine W_region rfl ?_
  refine WL_is (X_assign rfl rfl) rfl rfl rfl ?_
  refine WL_is (X_assign rfl rfl) rfl rfl rfl ?_
  (repeat (first | refine WL_nil ?_ | refine Then_normal ?_ | refine W_seq ?_))
  skip
  refine W_region rfl ?_
  refine WL_is (X_move rfl rfl) rfl rfl rfl ?_
  refine WL_is (X_move rfl rfl) rfl rfl rfl ?_
  refine WL_callR [] _ rfl rfl rfl Try.func19 rfl rfl rfl rfl (.refl _) hc ?_
  rintro r _ h2 hl2 rfl
  simp only [List.append_nil]
  refine WL_updE (UpdE.row (enc := encI) 0 rfl (lenI _)) ?_
  rintro _ h3 hl3 ⟨rfl, hr⟩
  obtain ⟨ra, rc, rfl⟩ := hr.shape
  cases q with
  | nil =>
    refine WL_is (X_assign rfl rfl) rfl rfl rfl ?_
    (repeat (first | refine WL_nil ?_ | refine Then_normal ?_ | refine W_seq ?_))
    skip
    refine W_region rfl ?_
    refine WL_is (X_move rfl rfl) rfl rfl rfl ?_
    refine WL_is (X_len_sl rfl rfl rfl (by assumption)) rfl rfl rfl ?_
    refine WL_is (X_eql rfl rfl rfl) rfl rfl rfl ?_
    (repeat (first | refine WL_nil ?_ | refine Then_normal ?_ | refine W_seq ?_ | refine W_true rfl ?_))
    skip
    refine W_region rfl ?_
    refine WL_is (X_assign rfl rfl) rfl rfl rfl ?_
    refine WL_is (X_assign rfl rfl) rfl rfl rfl ?_
    (repeat (first | refine WL_nil ?_ | refine Then_normal ?_ | refine W_ret ?_ | refine Then_ret ?_))
    exact Body_end rfl rfl rfl (SubR.none _) ⟨rfl, rfl⟩
  | cons x q =>
    have hql : (x :: q).length = q.length + 1 := rfl
    refine WL_is (X_assign rfl rfl) rfl rfl rfl ?_
    (repeat (first | refine WL_nil ?_ | refine Then_normal ?_ | refine W_seq ?_))
    skip
    refine W_region rfl ?_
    refine WL_is (X_move rfl rfl) rfl rfl rfl ?_
    refine WL_is (X_len_sl rfl rfl rfl (by assumption)) rfl rfl rfl ?_
    refine WL_is (X_eql_f rfl rfl rfl (by omega)) rfl rfl rfl ?_
    (repeat (first | refine WL_nil ?_ | refine Then_normal ?_ | refine W_seq ?_ | refine W_skip ?_ | refine W_false rfl ?_))
    skip
    refine W_region rfl ?_
    refine WL_is (X_move rfl rfl) rfl rfl rfl ?_
    (refine WL_index_sl rfl rfl rfl rfl rfl (by assumption) (by omega) (by omega) rfl rfl rfl ?_; intro p_ hp_)
    refine WL_is (X_load1_at rfl rfl (by assumption) rfl rfl) rfl rfl rfl ?_
    refine WL_is (X_assign rfl rfl) rfl rfl rfl ?_
    refine WL_is (X_assign rfl rfl) rfl rfl rfl ?_
    (repeat (first | refine WL_nil ?_ | refine Then_normal ?_ | refine W_ret ?_))
    exact Body_end rfl rfl rfl (SubR.none _) ⟨rfl, rfl⟩
theorem At_second {h : PH} {b : Nat} {x y : Value} (ha : At h (.pointer (some ⟨b, 0, none⟩)) [x, y]) : At h (.pointer (some ⟨b, 1, none⟩)) [y] := by
  obtain ⟨b', off, c, t, fr, e, hb, hc⟩ := ha
  cases e
  exact ⟨b, 1, c, t, fr, rfl, hb, fun j hj => by
    have : j = 0 := by simpa using hj
    subst this
    exact hc 1 (by simp)⟩
def mayE (procs p : Int) : Int := if 0 ≤ p ∧ p < procs then 0 else 2
theorem may_fn (h : PH) (b : Nat) (v : Value) (vs : List Value) (qs : List (List Int)) (procs p : Int) (K : Known h (.pointer (some ⟨b, 0, none⟩)) v vs qs procs) :
    Does Try.prog 22 [.pointer (some ⟨b, 0, none⟩), .int .i64 p] [] h (Ret fun r R' _ => r = .int .i64 (mayE procs p) ∧ R' = []) := by
  obtain ⟨hb, hv, hlen, hq, hsm, hsh⟩ := K
  have hb1 := At_second hb
  unfold mayE
  refine Does_of_W Try.func22 rfl (n := 19) rfl rfl (by simp only [argE, Nat.reduceAdd] <;> rfl) ?_
  by_cases h1 : p < 0
  · rw [if_neg (by omega)]
    (repeat (first | refine W_seq ?_))
    skip
    refine W_region rfl ?_
    refine WL_is (X_assign rfl rfl) rfl rfl rfl ?_
    (repeat (first | refine WL_nil ?_ | refine Then_normal ?_ | refine W_seq ?_ | refine W_block ?_))
    skip
    refine W_region rfl ?_
    refine WL_is (X_move rfl rfl) rfl rfl rfl ?_
    refine WL_is (X_eqPn_f rfl rfl rfl rfl) rfl rfl rfl ?_
    refine WL_is (X_assign rfl rfl) rfl rfl rfl ?_
    (repeat (first | refine WL_nil ?_ | refine Then_normal ?_ | refine W_seq ?_ | refine W_false rfl ?_))
    skip
    refine W_region rfl ?_
    refine WL_is (X_move rfl rfl) rfl rfl rfl ?_
    refine WL_is (X_lss_t rfl rfl rfl (by omega)) rfl rfl rfl ?_
    refine WL_is (X_move rfl rfl) rfl rfl rfl ?_
    refine WL_off rfl rfl rfl ?_
    refine WL_off rfl rfl rfl ?_
    refine WL_off rfl rfl rfl ?_
    refine WL_off rfl rfl rfl ?_
    refine WL_off rfl rfl rfl ?_
    refine WL_off rfl rfl rfl ?_
    refine WL_is (X_pick_t rfl rfl rfl) rfl rfl rfl ?_
    refine WL_is (X_assign rfl rfl) rfl rfl rfl ?_
    (repeat (first | refine WL_nil ?_ | refine Then_normal ?_ | refine W_seq ?_ | refine W_true rfl ?_))
    skip
    refine W_region rfl ?_
    refine WL_is (X_assign rfl rfl) rfl rfl rfl ?_
    (repeat (first | refine WL_nil ?_ | refine Then_normal ?_ | refine W_ret ?_ | refine Then_ret ?_ | refine inBlk_ret ?_))
    exact Body_end rfl rfl rfl (SubR.none _) ⟨rfl, rfl⟩
  · by_cases h2 : procs ≤ p
    · rw [if_neg (by omega)]
      (repeat (first | refine W_seq ?_))
      skip
      refine W_region rfl ?_
      refine WL_is (X_assign rfl rfl) rfl rfl rfl ?_
      (repeat (first | refine WL_nil ?_ | refine Then_normal ?_ | refine W_seq ?_ | refine W_block ?_))
      skip
      refine W_region rfl ?_
      refine WL_is (X_move rfl rfl) rfl rfl rfl ?_
      refine WL_is (X_eqPn_f rfl rfl rfl rfl) rfl rfl rfl ?_
      refine WL_is (X_assign rfl rfl) rfl rfl rfl ?_
      (repeat (first | refine WL_nil ?_ | refine Then_normal ?_ | refine W_seq ?_ | refine W_false rfl ?_))
      skip
      refine W_region rfl ?_
      refine WL_is (X_move rfl rfl) rfl rfl rfl ?_
      refine WL_is (X_lss_f rfl rfl rfl (by omega)) rfl rfl rfl ?_
      refine WL_is (X_move rfl rfl) rfl rfl rfl ?_
      refine WL_is (X_move rfl rfl) rfl rfl rfl ?_
      refine WL_is (X_move rfl rfl) rfl rfl rfl ?_
      refine WL_is (X_nilCheck rfl rfl) rfl rfl rfl ?_
      refine WL_is (X_fieldAddr rfl rfl rfl (by simp only [Nat.zero_add] <;> rfl)) rfl rfl rfl ?_
      refine WL_is (X_load1_at rfl rfl (by assumption) rfl rfl) rfl rfl rfl ?_
      refine WL_is (X_geq_t rfl rfl rfl (by omega)) rfl rfl rfl ?_
      refine WL_is (X_pick_f rfl rfl rfl) rfl rfl rfl ?_
      refine WL_is (X_assign rfl rfl) rfl rfl rfl ?_
      (repeat (first | refine WL_nil ?_ | refine Then_normal ?_ | refine W_seq ?_ | refine W_true rfl ?_))
      skip
      refine W_region rfl ?_
      refine WL_is (X_assign rfl rfl) rfl rfl rfl ?_
      (repeat (first | refine WL_nil ?_ | refine Then_normal ?_ | refine W_ret ?_ | refine Then_ret ?_ | refine inBlk_ret ?_))
      exact Body_end rfl rfl rfl (SubR.none _) ⟨rfl, rfl⟩
    · rw [if_pos (by omega)]
      (repeat (first | refine W_seq ?_))
      skip
      refine W_region rfl ?_
      refine WL_is (X_assign rfl rfl) rfl rfl rfl ?_
      (repeat (first | refine WL_nil ?_ | refine Then_normal ?_ | refine W_seq ?_ | refine W_block ?_))
      skip
      refine W_region rfl ?_
      refine WL_is (X_move rfl rfl) rfl rfl rfl ?_
      refine WL_is (X_eqPn_f rfl rfl rfl rfl) rfl rfl rfl ?_
      refine WL_is (X_assign rfl rfl) rfl rfl rfl ?_
      (repeat (first | refine WL_nil ?_ | refine Then_normal ?_ | refine W_seq ?_ | refine W_false rfl ?_))
      skip
      refine W_region rfl ?_
      refine WL_is (X_move rfl rfl) rfl rfl rfl ?_
      refine WL_is (X_lss_f rfl rfl rfl (by omega)) rfl rfl rfl ?_
      refine WL_is (X_move rfl rfl) rfl rfl rfl ?_
      refine WL_is (X_move rfl rfl) rfl rfl rfl ?_
      refine WL_is (X_move rfl rfl) rfl rfl rfl ?_
      refine WL_is (X_nilCheck rfl rfl) rfl rfl rfl ?_
      refine WL_is (X_fieldAddr rfl rfl rfl (by simp only [Nat.zero_add] <;> rfl)) rfl rfl rfl ?_
      refine WL_is (X_load1_at rfl rfl (by assumption) rfl rfl) rfl rfl rfl ?_
      refine WL_is (X_geq_f rfl rfl rfl (by omega)) rfl rfl rfl ?_
      refine WL_is (X_pick_f rfl rfl rfl) rfl rfl rfl ?_
      refine WL_is (X_assign rfl rfl) rfl rfl rfl ?_
      (repeat (first | refine WL_nil ?_ | refine Then_normal ?_ | refine W_seq ?_ | refine W_skip ?_ | refine inBlk_normal ?_ | refine W_false rfl ?_))
      skip
      refine W_region rfl ?_
      refine WL_is (X_assign rfl rfl) rfl rfl rfl ?_
      (repeat (first | refine WL_nil ?_ | refine Then_normal ?_ | refine W_ret ?_))
      exact Body_end rfl rfl rfl (SubR.none _) ⟨rfl, rfl⟩
end Go.Proofs.Ytgbcdjofkfdgnaa
