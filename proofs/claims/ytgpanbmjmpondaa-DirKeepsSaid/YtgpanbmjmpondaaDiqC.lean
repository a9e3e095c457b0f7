/- Directories: steps. -/
import Derived.Test.YtgpanbmjmpondaaDiqB
namespace Go.Proofs.Ytgpanbmjmpondaa
set_option maxRecDepth 4000
open Go Go.Par PH
structure Stp where
  tk : Bool
  ino : Int
  nm : Bs
def encT (x : Stp) : List Value := [.bool x.tk, .int .u8 x.ino, .string (mkB x.nm)]
def sloT (t : Stp) : Slo := ⟨1 + t.ino % 64, 1, t.nm⟩
def stepR (d : Dr) (t : Stp) : Dr × Int := if t.tk = true then takeR d t.nm else putR d (sloT t)
def shortT (l : List Stp) : Prop := l.length ≤ 120 ∧ ∀ x ∈ l, x.nm.length ≤ 100
theorem sloT_may {t : Stp} (h : 0 ≤ t.ino ∧ t.ino ≤ 255) : mayS (sloT t) = true := by
  have h1 : 1 ≤ (sloT t).ino ∧ (sloT t).ino ≤ 64 := by simp only [sloT]; omega
  simp only [mayS, Bool.and_eq_true, decide_eq_true_eq]
  exact ⟨⟨h1, by simp [sloT]⟩, by simp [sloT]⟩
attribute [local irreducible] W WL Does Exec Body Then inBlk RG WR row obj pblk
set_option maxHeartbeats 1000000 in
theorem long_fn (h : PH) (v : Value) (l : List Stp) (hv : Sl encT 3 h v l) : Does Try.prog 26 [v] [] h (Ret fun r R' _ => (∃ b, r = .bool b ∧ (b = false → shortT l)) ∧ R' = []) := by
  obtain ⟨a, c, rfl⟩ := hv.shape
  refine Does_of_W Try.func26 rfl (n := 24) rfl rfl (by simp only [argE] <;> rfl) ?_
  (repeat (first | refine W_seq ?_))
  skip
  refine W_region rfl ?_
  refine WL_is (X_assign rfl rfl) rfl rfl rfl ?_
  (repeat (first | refine WL_nil ?_ | refine Then_normal ?_ | refine W_seq ?_))
  skip
  refine W_region rfl ?_
  refine WL_is (X_assign rfl rfl) rfl rfl rfl ?_
  (repeat (first | refine WL_nil ?_ | refine Then_normal ?_ | refine W_block ?_))
  refine W_loop (X := Nat) (L := fun i => ⟨[(3, .int .i64 (i : Int)), (0, .slice a l.length c)], [], [], h⟩) (p := fun i => i ≤ l.length ∧ i ≤ 200 ∧ ∀ x ∈ l.take i, x.nm.length ≤ 100) (μ := fun i => l.length - i) 0 ⟨(by repeat (first | exact SubE_nil | refine SubE_cons rfl ?_)), rfl, SubR.refl _, rfl⟩ ⟨Nat.zero_le _, Nat.zero_le _, fun x hx => by simp at hx⟩ ?_
  rintro i ⟨hi, hi2, hall⟩
  by_cases hil : i < l.length
  · by_cases hi3 : i < 200
    · have hms := fun x => mem_snoc (x := x) hil
      have hsz := mkB_size l[i].nm
      by_cases hb : ((mkB l[i].nm).size : Int) > 100
      · (repeat (first | refine W_seq ?_))
        refine W_region rfl ?_
        refine WL_is (X_move rfl rfl) rfl rfl rfl ?_
        refine WL_is (X_move rfl rfl) rfl rfl rfl ?_
        refine WL_is (X_len_sl rfl rfl rfl (by assumption)) rfl rfl rfl ?_
        refine WL_is (X_lss_t rfl rfl rfl (by omega)) rfl rfl rfl ?_
        refine WL_is (X_move rfl rfl) rfl rfl rfl ?_
        refine WL_is (X_move rfl rfl) rfl rfl rfl ?_
        refine WL_is (X_lss_t rfl rfl rfl (by omega)) rfl rfl rfl ?_
        refine WL_is (X_pick_t rfl rfl rfl) rfl rfl rfl ?_
        (repeat (first | refine WL_nil ?_ | refine Then_normal ?_ | refine W_seq ?_ | refine W_skip ?_ | refine W_block ?_ | refine W_true rfl ?_))
        skip
        refine W_region rfl ?_
        refine WL_is (X_move rfl rfl) rfl rfl rfl ?_
        refine WL_is (X_move rfl rfl) rfl rfl rfl ?_
        (refine WL_index_slN rfl rfl rfl rfl rfl (by assumption) (by omega) rfl rfl rfl ?_; intro p_ hp_)
        (refine WL_fieldAddr_at rfl rfl (by assumption) rfl rfl rfl rfl ?_; intro p_ hp_)
        refine WL_is (X_load1_at rfl rfl (by assumption) rfl rfl) rfl rfl rfl ?_
        refine WL_is (X_len_str rfl rfl rfl) rfl rfl rfl ?_
        refine WL_is (X_gtr_t rfl rfl rfl (by omega)) rfl rfl rfl ?_
        (repeat (first | refine WL_nil ?_ | refine Then_normal ?_ | refine W_seq ?_ | refine W_true rfl ?_))
        skip
        refine W_region rfl ?_
        refine WL_is (X_assign rfl rfl) rfl rfl rfl ?_
        (repeat (first | refine WL_nil ?_ | refine Then_normal ?_ | refine W_ret ?_ | refine Then_ret ?_ | refine inBlk_ret ?_))
        refine Body_end rfl rfl rfl (SubR.none _) ?_
        exact ⟨⟨true, rfl, fun h => by cases h⟩, rfl⟩
      · (repeat (first | refine W_seq ?_))
        refine W_region rfl ?_
        refine WL_is (X_move rfl rfl) rfl rfl rfl ?_
        refine WL_is (X_move rfl rfl) rfl rfl rfl ?_
        refine WL_is (X_len_sl rfl rfl rfl (by assumption)) rfl rfl rfl ?_
        refine WL_is (X_lss_t rfl rfl rfl (by omega)) rfl rfl rfl ?_
        refine WL_is (X_move rfl rfl) rfl rfl rfl ?_
        refine WL_is (X_move rfl rfl) rfl rfl rfl ?_
        refine WL_is (X_lss_t rfl rfl rfl (by omega)) rfl rfl rfl ?_
        refine WL_is (X_pick_t rfl rfl rfl) rfl rfl rfl ?_
        (repeat (first | refine WL_nil ?_ | refine Then_normal ?_ | refine W_seq ?_ | refine W_skip ?_ | refine W_block ?_ | refine W_true rfl ?_))
        skip
        refine W_region rfl ?_
        refine WL_is (X_move rfl rfl) rfl rfl rfl ?_
        refine WL_is (X_move rfl rfl) rfl rfl rfl ?_
        (refine WL_index_slN rfl rfl rfl rfl rfl (by assumption) (by omega) rfl rfl rfl ?_; intro p_ hp_)
        (refine WL_fieldAddr_at rfl rfl (by assumption) rfl rfl rfl rfl ?_; intro p_ hp_)
        refine WL_is (X_load1_at rfl rfl (by assumption) rfl rfl) rfl rfl rfl ?_
        refine WL_is (X_len_str rfl rfl rfl) rfl rfl rfl ?_
        refine WL_is (X_gtr_f rfl rfl rfl (by omega)) rfl rfl rfl ?_
        (repeat (first | refine WL_nil ?_ | refine Then_normal ?_ | refine W_skip ?_ | refine inBlk_normal ?_ | refine W_false rfl ?_))
        skip
        refine W_region rfl ?_
        refine WL_is (X_move rfl rfl) rfl rfl rfl ?_
        refine WL_is (X_addW rfl rfl rfl (by exact wrap_i64_in (by omega) (by omega))) rfl rfl rfl ?_
        refine WL_is (X_assign rfl rfl) rfl rfl rfl ?_
        (repeat (first | refine WL_nil ?_ | refine Then_normal ?_))
        refine ⟨i + 1, ⟨(by repeat (first | exact SubE_nil | refine SubE_cons rfl ?_)), rfl, SubR.refl _, rfl⟩, ⟨hil, hi3, fun x hx => ?_⟩, by omega⟩
        rcases hms x hx with h' | rfl
        · exact hall x h'
        · omega
    · have hbl : (l.length : Int) > 120 := by omega
      (repeat (first | refine W_seq ?_))
      refine W_region rfl ?_
      refine WL_is (X_move rfl rfl) rfl rfl rfl ?_
      refine WL_is (X_move rfl rfl) rfl rfl rfl ?_
      refine WL_is (X_len_sl rfl rfl rfl (by assumption)) rfl rfl rfl ?_
      refine WL_is (X_lss_t rfl rfl rfl (by omega)) rfl rfl rfl ?_
      refine WL_is (X_move rfl rfl) rfl rfl rfl ?_
      refine WL_is (X_move rfl rfl) rfl rfl rfl ?_
      refine WL_is (X_lss_f rfl rfl rfl (by omega)) rfl rfl rfl ?_
      refine WL_is (X_pick_t rfl rfl rfl) rfl rfl rfl ?_
      (repeat (first | refine WL_nil ?_ | refine Then_normal ?_ | refine W_seq ?_ | refine W_exit ?_ | refine Then_exit ?_ | refine inBlk_here ?_ | refine W_false rfl ?_))
      skip
      refine W_region rfl ?_
      refine WL_is (X_move rfl rfl) rfl rfl rfl ?_
      refine WL_is (X_len_sl rfl rfl rfl (by assumption)) rfl rfl rfl ?_
      refine WL_is (X_gtr_t rfl rfl rfl (by omega)) rfl rfl rfl ?_
      refine WL_is (X_assign rfl rfl) rfl rfl rfl ?_
      (repeat (first | refine WL_nil ?_ | refine Then_normal ?_ | refine W_ret ?_))
      refine Body_end rfl rfl rfl (SubR.none _) ?_
      exact ⟨⟨true, rfl, fun h => by cases h⟩, rfl⟩
  · rw [List.take_of_length_le (by omega)] at hall
    by_cases hbl : (l.length : Int) > 120
    · (repeat (first | refine W_seq ?_))
      refine W_region rfl ?_
      refine WL_is (X_move rfl rfl) rfl rfl rfl ?_
      refine WL_is (X_move rfl rfl) rfl rfl rfl ?_
      refine WL_is (X_len_sl rfl rfl rfl (by assumption)) rfl rfl rfl ?_
      refine WL_is (X_lss_f rfl rfl rfl (by omega)) rfl rfl rfl ?_
      refine WL_is (X_move rfl rfl) rfl rfl rfl ?_
      refine WL_off rfl rfl rfl ?_
      refine WL_off rfl rfl rfl ?_
      refine WL_is (X_pick_f rfl rfl rfl) rfl rfl rfl ?_
      (repeat (first | refine WL_nil ?_ | refine Then_normal ?_ | refine W_seq ?_ | refine W_exit ?_ | refine Then_exit ?_ | refine inBlk_here ?_ | refine W_false rfl ?_))
      skip
      refine W_region rfl ?_
      refine WL_is (X_move rfl rfl) rfl rfl rfl ?_
      refine WL_is (X_len_sl rfl rfl rfl (by assumption)) rfl rfl rfl ?_
      refine WL_is (X_gtr_t rfl rfl rfl (by omega)) rfl rfl rfl ?_
      refine WL_is (X_assign rfl rfl) rfl rfl rfl ?_
      (repeat (first | refine WL_nil ?_ | refine Then_normal ?_ | refine W_ret ?_))
      refine Body_end rfl rfl rfl (SubR.none _) ?_
      exact ⟨⟨true, rfl, fun h => by cases h⟩, rfl⟩
    · (repeat (first | refine W_seq ?_))
      refine W_region rfl ?_
      refine WL_is (X_move rfl rfl) rfl rfl rfl ?_
      refine WL_is (X_move rfl rfl) rfl rfl rfl ?_
      refine WL_is (X_len_sl rfl rfl rfl (by assumption)) rfl rfl rfl ?_
      refine WL_is (X_lss_f rfl rfl rfl (by omega)) rfl rfl rfl ?_
      refine WL_is (X_move rfl rfl) rfl rfl rfl ?_
      refine WL_off rfl rfl rfl ?_
      refine WL_off rfl rfl rfl ?_
      refine WL_is (X_pick_f rfl rfl rfl) rfl rfl rfl ?_
      (repeat (first | refine WL_nil ?_ | refine Then_normal ?_ | refine W_seq ?_ | refine W_exit ?_ | refine Then_exit ?_ | refine inBlk_here ?_ | refine W_false rfl ?_))
      skip
      refine W_region rfl ?_
      refine WL_is (X_move rfl rfl) rfl rfl rfl ?_
      refine WL_is (X_len_sl rfl rfl rfl (by assumption)) rfl rfl rfl ?_
      refine WL_is (X_gtr_f rfl rfl rfl (by omega)) rfl rfl rfl ?_
      refine WL_is (X_assign rfl rfl) rfl rfl rfl ?_
      (repeat (first | refine WL_nil ?_ | refine Then_normal ?_ | refine W_ret ?_))
      refine Body_end rfl rfl rfl (SubR.none _) ?_
      exact ⟨⟨false, rfl, fun _ => ⟨by omega, hall⟩⟩, rfl⟩
set_option maxHeartbeats 1000000 in
theorem step_fn (h : PH) (v : Value) (d : Dr) (t : Stp) (hv : DrV h v d) (hb : maxR d ≤ 1000000) (hn : nmsOk d) (hx : t.nm.length ≤ 1000000) (hi : 0 ≤ t.ino ∧ t.ino ≤ 255) :
    Does Try.prog 27 [v, .agg (encT t).toArray] [] h (Ret fun r R' h' => DirA (stepR d t) r h' ∧ R' = []) := by
  have cp := put_fn h v d (sloT t) hv hb hn hx
  have ct := take_fn h v d t.nm hv hb hn
  obtain ⟨x0, x1, x2, x3, rfl, h0, h1, h2, h3⟩ := hv
  have hvc : vcO (drV x0 x1 x2 x3) = some [x0, x1, x2, x3] := forceL_all _
  unfold sloV sloT at cp
  unfold drV at cp ct hvc ⊢
  unfold stepR sloT encT
  refine Does_of_W Try.func27 rfl (n := 26) rfl rfl (by simp only [argE, Nat.reduceAdd] <;> rfl) ?_
  (repeat (first | refine W_seq ?_))
  refine W_region rfl ?_
  refine WL_box rfl rfl hvc rfl rfl rfl ?_
  intro b2
  (refine WL_box rfl rfl rfl rfl rfl rfl ?_; intro b_)
  (refine WL_alloc rfl rfl rfl rfl rfl rfl ?_; intro b_)
  refine WL_is (X_assign rfl rfl) rfl rfl rfl ?_
  (repeat (first | refine WL_nil ?_ | refine Then_normal ?_ | refine W_seq ?_))
  generalize b_ = b4
  cases htk : t.tk with
  | true =>
    rw [if_pos rfl]
    skip
    refine W_region rfl ?_
    refine WL_is (X_fieldAddr rfl rfl rfl (by simp only [Nat.zero_add] <;> rfl)) rfl rfl rfl ?_
    refine WL_is (X_load1 rfl rfl (by exact idx1) rfl rfl) rfl rfl rfl ?_
    (repeat (first | refine WL_nil ?_ | refine Then_normal ?_ | refine W_seq ?_ | refine W_true rfl ?_))
    skip
    refine W_region rfl ?_
    refine WL_is (X_loadA rfl rfl (by exact idx2) rfl rfl rfl) rfl rfl rfl ?_
    refine WL_is (X_fieldAddr rfl rfl rfl (by simp only [Nat.zero_add] <;> rfl)) rfl rfl rfl ?_
    refine WL_is (X_load1 rfl rfl (by exact idx1) rfl rfl) rfl rfl rfl ?_
    refine WL_call rfl rfl rfl Try.func23 rfl rfl rfl rfl ct ?_
    rintro _ _ H1 L1 ⟨⟨w, rfl, hw⟩, rfl⟩
    simp only [List.nil_append]
    obtain ⟨y0, y1, y2, y3, rfl, g0, g1, g2, g3⟩ := hw
    obtain ⟨_, _, e0⟩ := g0.shape
    obtain ⟨_, _, e1⟩ := g1.shape
    obtain ⟨_, _, e2⟩ := g2.shape
    obtain ⟨_, _, e3⟩ := g3.shape
    subst e0; subst e1; subst e2; subst e3
    unfold drV
    refine WL_is (X_extract rfl rfl rfl) rfl rfl rfl ?_
    refine WL_is (X_extract rfl rfl rfl) rfl rfl rfl ?_
    refine WL_store rfl rfl rfl (by exact idx0) rfl rfl rfl rfl rfl rfl rfl rfl rfl ?_
    refine WL_is (X_assign rfl rfl) rfl rfl rfl ?_
    (repeat (first | refine WL_nil ?_ | refine Then_normal ?_ | refine W_ret ?_ | refine Then_ret ?_))
    refine Body_vals (.cons (.cellA rfl idx0 rfl rfl rfl) (.cons (.tmp rfl) .nil)) rfl ?_
    exact UpdE.of (Upd.sub (SubR.none _)) ⟨⟨_, rfl, _, _, _, _, rfl, g0, g1, g2, g3⟩, rfl⟩
  | false =>
    rw [if_neg (by decide)]
    skip
    refine W_region rfl ?_
    refine WL_is (X_fieldAddr rfl rfl rfl (by simp only [Nat.zero_add] <;> rfl)) rfl rfl rfl ?_
    refine WL_is (X_load1 rfl rfl (by exact idx1) rfl rfl) rfl rfl rfl ?_
    (repeat (first | refine WL_nil ?_ | refine Then_normal ?_ | refine W_seq ?_ | refine W_skip ?_ | refine W_false rfl ?_))
    skip
    refine W_region rfl ?_
    refine WL_is (X_loadA rfl rfl (by exact idx2) rfl rfl rfl) rfl rfl rfl ?_
    refine WL_is (X_fieldAddr rfl rfl rfl (by simp only [Nat.zero_add] <;> rfl)) rfl rfl rfl ?_
    refine WL_is (X_load1 rfl rfl (by exact idx1) rfl rfl) rfl rfl rfl ?_
    refine WL_is (X_convW rfl rfl rfl rfl (by exact wrap_i64_in (by omega) (by omega))) rfl rfl rfl ?_
    refine WL_is (X_rem rfl rfl rfl (by omega) (by omega)) rfl rfl rfl ?_
    refine WL_is (X_addW rfl rfl rfl (by exact wrap_i64_in (by omega) (by omega))) rfl rfl rfl ?_
    refine WL_is (X_fieldAddr rfl rfl rfl (by simp only [Nat.zero_add] <;> rfl)) rfl rfl rfl ?_
    refine WL_is (X_load1 rfl rfl (by exact idx1) rfl rfl) rfl rfl rfl ?_
    refine WL_is (X_build rfl rfl rfl) rfl rfl rfl ?_
    refine WL_call rfl rfl rfl Try.func22 rfl rfl rfl rfl cp ?_
    rintro _ _ H1 L1 ⟨⟨w, rfl, hw⟩, rfl⟩
    simp only [List.nil_append]
    obtain ⟨y0, y1, y2, y3, rfl, g0, g1, g2, g3⟩ := hw
    obtain ⟨_, _, e0⟩ := g0.shape
    obtain ⟨_, _, e1⟩ := g1.shape
    obtain ⟨_, _, e2⟩ := g2.shape
    obtain ⟨_, _, e3⟩ := g3.shape
    subst e0; subst e1; subst e2; subst e3
    unfold drV
    refine WL_is (X_extract rfl rfl rfl) rfl rfl rfl ?_
    refine WL_is (X_extract rfl rfl rfl) rfl rfl rfl ?_
    refine WL_store rfl rfl rfl (by exact idx0) rfl rfl rfl rfl rfl rfl rfl rfl rfl ?_
    refine WL_is (X_assign rfl rfl) rfl rfl rfl ?_
    (repeat (first | refine WL_nil ?_ | refine Then_normal ?_ | refine W_ret ?_))
    refine Body_vals (.cons (.cellA rfl idx0 rfl rfl rfl) (.cons (.tmp rfl) .nil)) rfl ?_
    exact UpdE.of (Upd.sub (SubR.none _)) ⟨⟨_, rfl, _, _, _, _, rfl, g0, g1, g2, g3⟩, rfl⟩
end Go.Proofs.Ytgpanbmjmpondaa
