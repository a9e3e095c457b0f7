/- Words ahead: the chapter's examples; no table. -/
import Derived.Test.YtmohiefnoflndaaAheadD
namespace Go.Proofs.Ytmohiefnoflndaa
set_option maxRecDepth 4000
open Go Go.Par PH
def sortedS (L : List (Int × Int)) : Prop := L.Pairwise fun a b => a.1 < b.1
theorem key_inj {L : List (Int × Int)} (h : sortedS L) {a b : Int × Int} (ha : a ∈ L) (hb : b ∈ L) (he : a.1 = b.1) : a = b := by
  induction L with
  | nil => cases ha
  | cons x L ih =>
    obtain ⟨h1, h2⟩ := List.pairwise_cons.1 h
    rcases List.mem_cons.1 ha with ha2 | ha2
    · rcases List.mem_cons.1 hb with hb2 | hb2
      · rw [ha2, hb2]
      · have := h1 b hb2; rw [← ha2] at this; omega
    · rcases List.mem_cons.1 hb with hb2 | hb2
      · have := h1 a ha2; rw [← hb2] at this; omega
      · exact ih h2 ha2 hb2
theorem sorted_one {L L' T : List (Int × Int)} (hp : L'.Perm T) (hq : L.Perm T) (hs : sortedW L') (hs2 : sortedS L) : L' = L := by
  have hpl := hp.trans hq.symm
  refine hpl.eq_of_pairwise (le := fun a b : Int × Int => a.1 ≤ b.1) (fun a b ha hb h1 h2 => ?_) hs (pwk hs2 fun h => Int.le_of_lt h)
  exact key_inj hs2 (hpl.mem_iff.1 ha) hb (by omega)
attribute [local irreducible] W WL Does Exec Body Then inBlk RG WR row obj pblk
theorem list_one (h : PH) (ab mb : Nat) (T L : List (Int × Int)) (hT : T.length ≤ 1000000) (hq : L.Perm T) (hs : sortedS L) : Does Try.prog 18 [ptB ab] (tabR ab mb T) h (Ret fun r R' h' => R' = tabR ab mb T ∧ Sl encR 2 h' r L) :=
  (list_fn h ab mb T hT).upd fun v R' h' _ ⟨L', hp, hw, e, _⟩ => by
    subst e
    rw [sorted_one hp hq hw hs]
    refine (UpdE.row (enc := encR) 0 rfl (lenR _)).mono ?_
    rintro _ h2 - ⟨rfl, hsl⟩
    exact ⟨rfl, hsl⟩
theorem load_rd (h : PH) (ab mb : Nat) (T : List (Int × Int)) (k b : Int) : Does Try.prog 15 [ptB ab, .int .i64 k, .int .u64 b] (tabR ab mb T) h (Ret fun r R' _ => r = .int .u64 ((lkM T k).getD b) ∧ SubR R' ([] ++ tabR ab mb T)) :=
  (load_fn h ab mb T k b).wkn fun v R' h' _ ⟨e1, e2, _⟩ => ⟨e1, by rw [e2]; exact SubR.refl _⟩
theorem len_rd (h : PH) (ab mb : Nat) (T : List (Int × Int)) : Does Try.prog 17 [ptB ab] (tabR ab mb T) h (Ret fun r R' _ => r = .int .i64 T.length ∧ SubR R' ([] ++ tabR ab mb T)) :=
  (len_fn h ab mb T).wkn fun v R' h' _ ⟨e1, e2, _⟩ => ⟨e1, by rw [e2]; exact SubR.refl _⟩
def l53 : List (Int × Int) := [(5, 3), (2, 7)]
def l25 : List (Int × Int) := [(2, 7), (5, 3)]
def l27 : List (Int × Int) := [(2, 7)]
set_option maxHeartbeats 4000000 in
theorem alive_fn (h : PH) : Does Try.prog 8 [] [] h (Ret fun r _ _ => r = .bool true) := by
  refine Does_of_W Try.func8 rfl (n := 72) rfl rfl (by simp only [argE] <;> rfl) ?_
  (repeat (first | refine W_seq ?_))
  skip
  refine W_region rfl ?_
  refine WL_is (X_assign rfl rfl) rfl rfl rfl ?_
  (repeat (first | refine WL_nil ?_ | refine Then_normal ?_ | refine W_seq ?_))
  skip
  refine W_region rfl ?_
  refine WL_callR [] [] rfl rfl rfl Try.func9 rfl rfl rfl rfl (.refl _) (new_fn h) ?_
  rintro _ _ h - ⟨ab, mb, rfl, rfl, rfl⟩
  unfold ptB
  refine WL_is (X_assign rfl rfl) rfl rfl rfl ?_
  (repeat (first | refine WL_nil ?_ | refine Then_normal ?_ | refine W_seq ?_))
  skip
  refine W_region rfl ?_
  refine WL_is (X_move rfl rfl) rfl rfl rfl ?_
  refine WL_is (X_eqPn_f rfl rfl rfl rfl) rfl rfl rfl ?_
  (repeat (first | refine WL_nil ?_ | refine Then_normal ?_ | refine W_seq ?_ | refine W_skip ?_ | refine W_false rfl ?_))
  skip
  refine W_region rfl ?_
  refine WL_is (X_move rfl rfl) rfl rfl rfl ?_
  refine WL_is (X_build rfl rfl rfl) rfl rfl rfl ?_
  refine WL_is (X_build rfl rfl rfl) rfl rfl rfl ?_
  refine WL_is (X_build rfl rfl rfl) rfl rfl rfl ?_
  refine WL_buildSl (enc := encR) [(5, 1), (2, 7), (5, 3)] (lenR _) rfl rfl rfl rfl rfl rfl rfl rfl rfl rfl rfl rfl rfl rfl rfl ?_
  intro v h1 hl1 hs1
  have hput : Does Try.prog 10 [ptB ab, v] (tabR ab mb []) h1 (Ret fun r R' h' => r = .int .i64 0 ∧ R' = tabR ab mb l53 ∧ h' = h1) := put_fn h1 ab mb [] _ v hs1 (by decide)
  refine WL_callR (tabR ab mb []) [] rfl rfl rfl Try.func10 rfl rfl rfl rfl (.refl _) hput ?_
  rintro _ _ h - ⟨rfl, rfl, rfl⟩
  refine WL_is (X_assign rfl rfl) rfl rfl rfl ?_
  (repeat (first | refine WL_nil ?_ | refine Then_normal ?_ | refine W_seq ?_))
  skip
  refine W_region rfl ?_
  refine WL_is (X_move rfl rfl) rfl rfl rfl ?_
  have hld : Does Try.prog 15 [ptB ab, .int .i64 5, .int .u64 9] (tabR ab mb l53) h (Ret fun r R' h' => r = .int .u64 3 ∧ R' = tabR ab mb l53 ∧ h' = h) := load_fn h ab mb l53 5 9
  refine WL_callR (tabR ab mb l53) [] rfl rfl rfl Try.func15 rfl rfl rfl rfl (.refl _) hld ?_
  rintro _ _ h - ⟨rfl, rfl, rfl⟩
  refine WL_is (X_assign rfl rfl) rfl rfl rfl ?_
  (repeat (first | refine WL_nil ?_ | refine Then_normal ?_ | refine W_seq ?_))
  skip
  refine W_region rfl ?_
  refine WL_is (X_move rfl rfl) rfl rfl rfl ?_
  have hld : Does Try.prog 15 [ptB ab, .int .i64 6, .int .u64 9] (tabR ab mb l53) h (Ret fun r R' h' => r = .int .u64 9 ∧ R' = tabR ab mb l53 ∧ h' = h) := load_fn h ab mb l53 6 9
  refine WL_callR (tabR ab mb l53) [] rfl rfl rfl Try.func15 rfl rfl rfl rfl (.refl _) hld ?_
  rintro _ _ h - ⟨rfl, rfl, rfl⟩
  refine WL_is (X_assign rfl rfl) rfl rfl rfl ?_
  (repeat (first | refine WL_nil ?_ | refine Then_normal ?_ | refine W_seq ?_))
  skip
  refine W_region rfl ?_
  refine WL_is (X_move rfl rfl) rfl rfl rfl ?_
  refine WL_callR (tabR ab mb l53) [] rfl rfl rfl Try.func18 rfl rfl rfl rfl (.refl _) (list_one h ab mb l53 l25 (by decide) (.swap _ _ _) (by unfold sortedS l25; simp)) ?_
  rintro vl _ h - ⟨rfl, hvl⟩
  refine WL_is (X_assign rfl rfl) rfl rfl rfl ?_
  (repeat (first | refine WL_nil ?_ | refine Then_normal ?_ | refine W_seq ?_))
  skip
  refine W_region rfl ?_
  refine WL_is (X_move rfl rfl) rfl rfl rfl ?_
  have hdo : Does Try.prog 13 [ptB ab, .int .i64 5] (tabR ab mb l53) h (Ret fun r R' h' => r = .int .i64 0 ∧ R' = tabR ab mb l27 ∧ h' = h) := done_fn h ab mb l53 5
  refine WL_callR (tabR ab mb l53) [] rfl rfl rfl Try.func13 rfl rfl rfl rfl (.refl _) hdo ?_
  rintro _ _ h - ⟨rfl, rfl, rfl⟩
  refine WL_is (X_assign rfl rfl) rfl rfl rfl ?_
  (repeat (first | refine WL_nil ?_ | refine Then_normal ?_ | refine W_seq ?_))
  skip
  refine W_region rfl ?_
  refine WL_is (X_move rfl rfl) rfl rfl rfl ?_
  have hdo : Does Try.prog 13 [ptB ab, .int .i64 5] (tabR ab mb l27) h (Ret fun r R' h' => r = .int .i64 3 ∧ R' = tabR ab mb l27 ∧ h' = h) := done_fn h ab mb l27 5
  refine WL_callR (tabR ab mb l27) [] rfl rfl rfl Try.func13 rfl rfl rfl rfl (.refl _) hdo ?_
  rintro _ _ h - ⟨rfl, rfl, rfl⟩
  refine WL_is (X_assign rfl rfl) rfl rfl rfl ?_
  (repeat (first | refine WL_nil ?_ | refine Then_normal ?_ | refine W_seq ?_))
  skip
  refine W_region rfl ?_
  refine WL_is (X_move rfl rfl) rfl rfl rfl ?_
  refine WL_is (X_build rfl rfl rfl) rfl rfl rfl ?_
  refine WL_is (X_build rfl rfl rfl) rfl rfl rfl ?_
  refine WL_buildSl (enc := encR) [(1, 0), (-1, 0)] (lenR _) rfl rfl rfl rfl rfl rfl rfl rfl rfl rfl rfl rfl rfl rfl rfl ?_
  intro v2 h2 hl2 hs2
  have hput : Does Try.prog 10 [ptB ab, v2] (tabR ab mb l27) h2 (Ret fun r R' h' => r = .int .i64 2 ∧ R' = tabR ab mb l27 ∧ h' = h2) := put_fn h2 ab mb l27 _ v2 hs2 (by decide)
  refine WL_callR (tabR ab mb l27) [] rfl rfl rfl Try.func10 rfl rfl rfl rfl (.refl _) hput ?_
  rintro _ _ h3 hl3 ⟨rfl, rfl, -⟩
  refine WL_is (X_assign rfl rfl) rfl rfl rfl ?_
  (repeat (first | refine WL_nil ?_ | refine Then_normal ?_ | refine W_seq ?_))
  skip
  refine W_region rfl ?_
  refine WL_is (X_move rfl rfl) rfl rfl rfl ?_
  refine WL_is (X_eql_t rfl rfl rfl (by omega)) rfl rfl rfl ?_
  refine WL_is (X_move rfl rfl) rfl rfl rfl ?_
  refine WL_is (X_move rfl rfl) rfl rfl rfl ?_
  refine WL_is (X_eql_t rfl rfl rfl (by omega)) rfl rfl rfl ?_
  refine WL_is (X_pick_t rfl rfl rfl) rfl rfl rfl ?_
  refine WL_is (X_move rfl rfl) rfl rfl rfl ?_
  refine WL_is (X_move rfl rfl) rfl rfl rfl ?_
  refine WL_is (X_eql_t rfl rfl rfl (by omega)) rfl rfl rfl ?_
  refine WL_is (X_pick_t rfl rfl rfl) rfl rfl rfl ?_
  refine WL_is (X_move rfl rfl) rfl rfl rfl ?_
  refine WL_is (X_move rfl rfl) rfl rfl rfl ?_
  refine WL_is (X_build rfl rfl rfl) rfl rfl rfl ?_
  refine WL_is (X_build rfl rfl rfl) rfl rfl rfl ?_
  try refine WL_off rfl rfl rfl ?_
  refine WL_buildSl (enc := encR) l25 (lenR _) rfl rfl rfl rfl rfl rfl rfl rfl rfl rfl rfl rfl rfl rfl rfl ?_
  intro v3 h4 hl4 hs3
  have hsm := same_fn h4 l25 l25 vl v3 ((hvl.mono hl2).mono (hl3.trans hl4)) hs3 (by decide) (by decide)
  rw [decide_eq_true rfl] at hsm
  refine WL_is (X_callv rfl rfl rfl Try.func12 rfl hsm) rfl rfl rfl ?_
  refine WL_is (X_pick_t rfl rfl rfl) rfl rfl rfl ?_
  refine WL_is (X_move rfl rfl) rfl rfl rfl ?_
  refine WL_is (X_move rfl rfl) rfl rfl rfl ?_
  refine WL_is (X_eql_t rfl rfl rfl (by omega)) rfl rfl rfl ?_
  refine WL_is (X_pick_t rfl rfl rfl) rfl rfl rfl ?_
  refine WL_is (X_move rfl rfl) rfl rfl rfl ?_
  refine WL_is (X_move rfl rfl) rfl rfl rfl ?_
  refine WL_is (X_eql_t rfl rfl rfl (by omega)) rfl rfl rfl ?_
  refine WL_is (X_pick_t rfl rfl rfl) rfl rfl rfl ?_
  refine WL_is (X_move rfl rfl) rfl rfl rfl ?_
  refine WL_is (X_move rfl rfl) rfl rfl rfl ?_
  refine WL_is (X_eql_t rfl rfl rfl (by omega)) rfl rfl rfl ?_
  refine WL_is (X_pick_t rfl rfl rfl) rfl rfl rfl ?_
  refine WL_is (X_move rfl rfl) rfl rfl rfl ?_
  refine WL_is (X_move rfl rfl) rfl rfl rfl ?_
  have hld : Does Try.prog 15 [ptB ab, .int .i64 5, .int .u64 9] (tabR ab mb l27) h4 (Ret fun r R' h' => r = .int .u64 9 ∧ R' = tabR ab mb l27 ∧ h' = h4) := load_fn h4 ab mb l27 5 9
  refine WL_callR (tabR ab mb l27) [] rfl rfl rfl Try.func15 rfl rfl rfl rfl (.refl _) hld ?_
  rintro _ _ h - ⟨rfl, rfl, rfl⟩
  refine WL_is (X_eql_t rfl rfl rfl (by omega)) rfl rfl rfl ?_
  refine WL_is (X_pick_t rfl rfl rfl) rfl rfl rfl ?_
  refine WL_is (X_move rfl rfl) rfl rfl rfl ?_
  refine WL_is (X_move rfl rfl) rfl rfl rfl ?_
  have hle : Does Try.prog 17 [ptB ab] (tabR ab mb l27) h (Ret fun r R' h' => r = .int .i64 1 ∧ R' = tabR ab mb l27 ∧ h' = h) := len_fn h ab mb l27
  refine WL_callR (tabR ab mb l27) [] rfl rfl rfl Try.func17 rfl rfl rfl rfl (.refl _) hle ?_
  rintro _ _ h - ⟨rfl, rfl, rfl⟩
  refine WL_is (X_eql_t rfl rfl rfl (by omega)) rfl rfl rfl ?_
  refine WL_is (X_pick_t rfl rfl rfl) rfl rfl rfl ?_
  refine WL_is (X_assign rfl rfl) rfl rfl rfl ?_
  (repeat (first | refine WL_nil ?_ | refine Then_normal ?_ | refine W_ret ?_))
  refine Body_end rfl rfl rfl (SubR.none _) ?_
  rfl
theorem nil_law (h : PH) (v : Value) (l : List (Int × Int)) (k b : Int) (hv : Sl encR 2 h v l) : Does Try.prog 6 [v, .int .i64 k, .int .u64 b] [] h (Ret fun r _ _ => r = .bool true) := by
  have ha := alive_fn h
  have c1 := put_nil h v
  have c2 := done_nil h (.int .i64 k)
  have c3 := load_nil h (.int .i64 k) b
  have c4 := len_nil h
  have c5 := list_nil h
  refine Does_of_W Try.func6 rfl (n := 44) rfl rfl (by simp only [argE, Nat.reduceAdd] <;> rfl) ?_
  by_cases hl : l.length > 1000
  · (repeat (first | refine W_seq ?_))
    skip
    refine W_region rfl ?_
    refine WL_is (X_assign rfl rfl) rfl rfl rfl ?_
    (repeat (first | refine WL_nil ?_ | refine Then_normal ?_ | refine W_seq ?_))
    skip
    refine W_region rfl ?_
    refine WL_is (X_move rfl rfl) rfl rfl rfl ?_
    refine WL_is (X_len_sl rfl rfl rfl (by assumption)) rfl rfl rfl ?_
    refine WL_is (X_gtr_t rfl rfl rfl (by omega)) rfl rfl rfl ?_
    (repeat (first | refine WL_nil ?_ | refine Then_normal ?_ | refine W_seq ?_ | refine W_true rfl ?_))
    skip
    refine W_region rfl ?_
    refine WL_is (X_callv rfl rfl rfl Try.func8 rfl (by assumption)) rfl rfl rfl ?_
    refine WL_is (X_assign rfl rfl) rfl rfl rfl ?_
    (repeat (first | refine WL_nil ?_ | refine Then_normal ?_ | refine W_ret ?_ | refine Then_ret ?_))
    refine Body_end rfl rfl rfl (SubR.none _) ?_
    rfl
  · (repeat (first | refine W_seq ?_))
    skip
    refine W_region rfl ?_
    refine WL_is (X_assign rfl rfl) rfl rfl rfl ?_
    (repeat (first | refine WL_nil ?_ | refine Then_normal ?_ | refine W_seq ?_))
    skip
    refine W_region rfl ?_
    refine WL_is (X_move rfl rfl) rfl rfl rfl ?_
    refine WL_is (X_len_sl rfl rfl rfl (by assumption)) rfl rfl rfl ?_
    refine WL_is (X_gtr_f rfl rfl rfl (by omega)) rfl rfl rfl ?_
    (repeat (first | refine WL_nil ?_ | refine Then_normal ?_ | refine W_seq ?_ | refine W_skip ?_ | refine W_false rfl ?_))
    skip
    refine W_region rfl ?_
    refine WL_is (X_assign rfl rfl) rfl rfl rfl ?_
    (repeat (first | refine WL_nil ?_ | refine Then_normal ?_ | refine W_seq ?_))
    skip
    refine W_region rfl ?_
    refine WL_is (X_move rfl rfl) rfl rfl rfl ?_
    refine WL_is (X_move rfl rfl) rfl rfl rfl ?_
    refine WL_is (X_callv rfl rfl rfl Try.func10 rfl (by assumption)) rfl rfl rfl ?_
    refine WL_is (X_eql_t rfl rfl rfl (by omega)) rfl rfl rfl ?_
    refine WL_is (X_move rfl rfl) rfl rfl rfl ?_
    refine WL_is (X_move rfl rfl) rfl rfl rfl ?_
    refine WL_is (X_move rfl rfl) rfl rfl rfl ?_
    refine WL_is (X_callv rfl rfl rfl Try.func13 rfl (by assumption)) rfl rfl rfl ?_
    refine WL_is (X_eql_t rfl rfl rfl (by omega)) rfl rfl rfl ?_
    refine WL_is (X_pick_t rfl rfl rfl) rfl rfl rfl ?_
    refine WL_is (X_move rfl rfl) rfl rfl rfl ?_
    refine WL_is (X_move rfl rfl) rfl rfl rfl ?_
    refine WL_is (X_move rfl rfl) rfl rfl rfl ?_
    refine WL_is (X_move rfl rfl) rfl rfl rfl ?_
    refine WL_is (X_callv rfl rfl rfl Try.func15 rfl (by assumption)) rfl rfl rfl ?_
    refine WL_is (X_move rfl rfl) rfl rfl rfl ?_
    refine WL_is (X_eql_t rfl rfl rfl (by omega)) rfl rfl rfl ?_
    refine WL_is (X_pick_t rfl rfl rfl) rfl rfl rfl ?_
    refine WL_is (X_move rfl rfl) rfl rfl rfl ?_
    refine WL_is (X_move rfl rfl) rfl rfl rfl ?_
    refine WL_is (X_callv rfl rfl rfl Try.func18 rfl (by assumption)) rfl rfl rfl ?_
    refine WL_is (X_len rfl rfl rfl) rfl rfl rfl ?_
    refine WL_is (X_eql_t rfl rfl rfl (by omega)) rfl rfl rfl ?_
    refine WL_is (X_pick_t rfl rfl rfl) rfl rfl rfl ?_
    refine WL_is (X_move rfl rfl) rfl rfl rfl ?_
    refine WL_is (X_move rfl rfl) rfl rfl rfl ?_
    refine WL_is (X_callv rfl rfl rfl Try.func17 rfl (by assumption)) rfl rfl rfl ?_
    refine WL_is (X_eql_t rfl rfl rfl (by omega)) rfl rfl rfl ?_
    refine WL_is (X_pick_t rfl rfl rfl) rfl rfl rfl ?_
    refine WL_is (X_move rfl rfl) rfl rfl rfl ?_
    refine WL_is (X_callv rfl rfl rfl Try.func8 rfl (by assumption)) rfl rfl rfl ?_
    refine WL_is (X_pick_t rfl rfl rfl) rfl rfl rfl ?_
    refine WL_is (X_assign rfl rfl) rfl rfl rfl ?_
    (repeat (first | refine WL_nil ?_ | refine Then_normal ?_ | refine W_ret ?_))
    refine Body_end rfl rfl rfl (SubR.none _) ?_
    rfl
end Go.Proofs.Ytmohiefnoflndaa
