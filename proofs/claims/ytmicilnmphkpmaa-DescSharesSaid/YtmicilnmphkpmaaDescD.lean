/- Open files: the list of numbers; what is looked for; closing. -/
import Derived.Test.YtmicilnmphkpmaaDescC
namespace Go.Proofs.Ytmicilnmphkpmaa
open Go Go.Par PH
attribute [local irreducible] W WL Does Exec Body Then inBlk RG WR row obj pblk
def encI (n : Int) : List Value := [.int .i64 n]
theorem elemI : ElemT Try.prog 46 3 1 8 := ElemT.mk' rfl rfl
theorem lenI (l : List Int) : ∀ x ∈ l, (encI x).length = 1 := fun _ _ => rfl
theorem flatI (l : List Int) : ∀ x ∈ l, (encI x).all flat = true := fun _ _ => rfl
/-- The first numbers that are not free. -/
def lst (fds : List Nat) : Nat → List Int
  | 0 => []
  | k + 1 => lst fds k ++ (if (fds[k]?).getD 0 = 0 then [] else [(k : Int)])
theorem lst_le (fds : List Nat) : ∀ k, (lst fds k).length ≤ k
  | 0 => by simp [lst]
  | k + 1 => by
    have := lst_le fds k
    simp only [lst, List.length_append]
    split <;> simp <;> omega
set_option maxHeartbeats 1000000 in
theorem list_fn (h : PH) (b : Nat) (s : DS) (hs : s.Ok) : Does Try.prog 20 [.pointer (some ⟨b, 0, none⟩)] [tabR b s] h
    (Ret fun r R' h' => Sl encI 1 h' r (lst s.fds 8) ∧ R' = [tabR b s]) := by
  refine Does_of_W Try.func20 rfl (n := 23) rfl rfl (by simp only [argE] <;> rfl) ?_
  refine W_updE (UpdE.tab 0 rfl) ?_
  rintro _ h - ⟨rfl, L, hL, rfl⟩
  have hl8 := hs.len
  unfold tblk
  (repeat (first | refine W_seq ?_))
  skip
  refine W_region rfl ?_
  refine WL_is (X_assign rfl rfl) rfl rfl rfl ?_
  (repeat (first | refine WL_nil ?_ | refine Then_normal ?_ | refine W_seq ?_))
  skip
  refine W_region rfl ?_
  refine WL_is (X_move rfl rfl) rfl rfl rfl ?_
  refine WL_is (X_eqPn_f rfl rfl rfl rfl) rfl rfl rfl ?_
  (repeat (first | refine WL_nil ?_ | refine Then_normal ?_ | refine W_seq ?_ | refine W_skip ?_ | refine W_false rfl ?_))
  skip
  refine W_region rfl ?_
  refine WL_is (X_move rfl rfl) rfl rfl rfl ?_
  refine WL_is (X_nilCheck rfl rfl) rfl rfl rfl ?_
  refine WL_is (X_fieldAddr rfl rfl rfl (by simp only [Nat.zero_add] <;> rfl)) rfl rfl rfl ?_
  refine WL_is (X_loadAll (sz := 8) rfl rfl (by exact idx0) rfl rfl (by simp only [List.length_map]; omega)) rfl rfl rfl ?_
  refine WL_is (X_move rfl rfl) rfl rfl rfl ?_
  (repeat (first | refine WL_nil ?_ | refine Then_normal ?_ | refine W_block ?_))
  refine W_upd (Upd.nilrow (e := 3) (sz := 1)) ?_
  refine W_loop (X := Nat × Value) (L := fun k => ⟨[(11, .int .i64 (k.1 : Int)), (10, .agg (s.fds.map (ptr L)).toArray), (2, k.2)], [], [rowL encI k.2 3 1 (lst s.fds k.1), blk b (s.fds.map (ptr L)) 56, filesR L], h⟩) (p := fun k => k.1 ≤ 8) (μ := fun k => 8 - k.1) (0, .slice none 0 0) ⟨(by repeat (first | exact SubE_nil | refine SubE_cons rfl ?_)), rfl, SubR.refl _, rfl⟩ (by simp) ?_
  rintro ⟨k, v⟩ hk
  simp only at hk
  by_cases hlt : k < 8
  · have hk' : k < s.fds.length := by omega
    have hv := cells_at (L := L) hk'
    have hlk := lst_le s.fds k
    by_cases h0 : s.fds[k] = 0
    · have hl : lst s.fds (k + 1) = lst s.fds k := by simp [lst, hk', h0]
      rw [h0] at hv
      have hv : (s.fds.map (ptr L))[k]? = some (.pointer none) := hv
      (repeat (first | refine W_seq ?_))
      refine W_region rfl ?_
      refine WL_is (X_lss_t rfl rfl rfl (by omega)) rfl rfl rfl ?_
      (repeat (first | refine WL_nil ?_ | refine Then_normal ?_ | refine W_seq ?_ | refine W_skip ?_ | refine W_block ?_ | refine W_true rfl ?_))
      skip
      refine W_region rfl ?_
      refine WL_is (X_move rfl rfl) rfl rfl rfl ?_
      refine WL_is (X_index_valS (sz := 1) rfl rfl rfl rfl rfl rfl (by omega) (by omega) (by simp only [Int.toNat_natCast, Nat.mul_one] <;> rfl) (by assumption)) rfl rfl rfl ?_
      refine WL_is (X_assign rfl rfl) rfl rfl rfl ?_
      refine WL_is (X_assign rfl rfl) rfl rfl rfl ?_
      (repeat (first | refine WL_nil ?_ | refine Then_normal ?_ | refine W_seq ?_))
      skip
      refine W_region rfl ?_
      refine WL_is (X_move rfl rfl) rfl rfl rfl ?_
      refine WL_is (X_nePn_f rfl rfl rfl rfl) rfl rfl rfl ?_
      (repeat (first | refine WL_nil ?_ | refine Then_normal ?_ | refine W_skip ?_ | refine inBlk_normal ?_ | refine W_false rfl ?_))
      skip
      refine W_region rfl ?_
      refine WL_is (X_addW rfl rfl rfl (by exact wrap_i64_in (by omega) (by omega))) rfl rfl rfl ?_
      refine WL_is (X_move rfl rfl) rfl rfl rfl ?_
      (repeat (first | refine WL_nil ?_ | refine Then_normal ?_))
      refine ⟨(k + 1, v), ⟨(by repeat (first | exact SubE_nil | refine SubE_cons rfl ?_)), rfl, SubR.of_perm (by rw [hl]), rfl⟩, by simp only; omega, by simp only; omega⟩
    · have hl : lst s.fds (k + 1) = lst s.fds k ++ [(k : Int)] := by simp [lst, hk', h0]
      obtain ⟨j, hj, e, hp⟩ := ptr_pos (L := L) (k := s.fds[k]) (by omega) (ok_le hs hL _ (List.getElem_mem _))
      rw [hp] at hv
      (repeat (first | refine W_seq ?_))
      refine W_region rfl ?_
      refine WL_is (X_lss_t rfl rfl rfl (by omega)) rfl rfl rfl ?_
      (repeat (first | refine WL_nil ?_ | refine Then_normal ?_ | refine W_seq ?_ | refine W_skip ?_ | refine W_block ?_ | refine W_true rfl ?_))
      skip
      refine W_region rfl ?_
      refine WL_is (X_move rfl rfl) rfl rfl rfl ?_
      refine WL_is (X_index_valS (sz := 1) rfl rfl rfl rfl rfl rfl (by omega) (by omega) (by simp only [Int.toNat_natCast, Nat.mul_one] <;> rfl) (by assumption)) rfl rfl rfl ?_
      refine WL_is (X_assign rfl rfl) rfl rfl rfl ?_
      refine WL_is (X_assign rfl rfl) rfl rfl rfl ?_
      (repeat (first | refine WL_nil ?_ | refine Then_normal ?_ | refine W_seq ?_))
      skip
      refine W_region rfl ?_
      refine WL_is (X_move rfl rfl) rfl rfl rfl ?_
      refine WL_is (X_nePn_t rfl rfl rfl rfl) rfl rfl rfl ?_
      (repeat (first | refine WL_nil ?_ | refine Then_normal ?_ | refine W_true rfl ?_))
      skip
      refine W_region rfl ?_
      refine WL_is (X_move rfl rfl) rfl rfl rfl ?_
      refine WL_is (X_move rfl rfl) rfl rfl rfl ?_
      refine WL_buildSlice rfl rfl rfl rfl rfl rfl rfl rfl rfl rfl rfl rfl rfl ?_
      intro u
      refine WL_append (enc := encI) (L' := [(k : Int)]) (i := 1) rfl rfl rfl elemI rfl rfl (Src.own (i := 0) (c := [.int .i64 (k : Int)]) rfl rfl) (flatI _) (by simp only [List.length_cons, List.length_nil]; omega) (by simp only [List.length_cons, List.length_nil]; omega) rfl rfl rfl ?_
      intro v'
      refine WL_is (X_assign rfl rfl) rfl rfl rfl ?_
      (repeat (first | refine WL_nil ?_ | refine Then_normal ?_ | refine inBlk_normal ?_))
      skip
      refine W_region rfl ?_
      refine WL_is (X_addW rfl rfl rfl (by exact wrap_i64_in (by omega) (by omega))) rfl rfl rfl ?_
      refine WL_is (X_move rfl rfl) rfl rfl rfl ?_
      (repeat (first | refine WL_nil ?_ | refine Then_normal ?_))
      refine ⟨(k + 1, v'), ⟨(by repeat (first | exact SubE_nil | refine SubE_cons rfl ?_)), rfl, SubR.skip _ (SubR.of_perm (by rw [hl]; exact .refl _)), rfl⟩, by simp only; omega, by simp only; omega⟩
  · have hk8 : k = 8 := by omega
    subst hk8
    (repeat (first | refine W_seq ?_))
    refine W_region rfl ?_
    refine WL_is (X_lss_f rfl rfl rfl (by omega)) rfl rfl rfl ?_
    (repeat (first | refine WL_nil ?_ | refine Then_normal ?_ | refine W_seq ?_ | refine W_exit ?_ | refine Then_exit ?_ | refine inBlk_here ?_ | refine W_false rfl ?_))
    skip
    refine W_region rfl ?_
    refine WL_is (X_move rfl rfl) rfl rfl rfl ?_
    refine WL_is (X_assign rfl rfl) rfl rfl rfl ?_
    (repeat (first | refine WL_nil ?_ | refine Then_normal ?_ | refine W_ret ?_))
    refine Body_vals (.cons (.tmp rfl) .nil) rfl ?_
    refine (UpdE.row (enc := encI) 0 rfl (lenI _)).then ?_
    rintro _ h2 hl2 ⟨rfl, hsl⟩
    exact UpdE.of (Upd.tab hL) ⟨hsl, rfl⟩
theorem list_nil (h : PH) : Does Try.prog 20 [.pointer none] [] h (Ret fun r R' _ => r = .slice none 0 0 ∧ R' = []) := by
  refine Does_of_W Try.func20 rfl (n := 23) rfl rfl (by simp only [argE] <;> rfl) ?_
  (repeat (first | refine W_seq ?_))
  skip
  refine W_region rfl ?_
  refine WL_is (X_assign rfl rfl) rfl rfl rfl ?_
  (repeat (first | refine WL_nil ?_ | refine Then_normal ?_ | refine W_seq ?_))
  skip
  refine W_region rfl ?_
  refine WL_is (X_move rfl rfl) rfl rfl rfl ?_
  refine WL_is (X_eqPn_t rfl rfl rfl rfl) rfl rfl rfl ?_
  (repeat (first | refine WL_nil ?_ | refine Then_normal ?_ | refine W_seq ?_ | refine W_true rfl ?_))
  skip
  refine W_region rfl ?_
  refine WL_is (X_assign rfl rfl) rfl rfl rfl ?_
  (repeat (first | refine WL_nil ?_ | refine Then_normal ?_ | refine W_ret ?_ | refine Then_ret ?_))
  refine Body_end rfl rfl rfl (SubR.refl _) ?_
  exact ⟨rfl, rfl⟩

def encP (L : FL) (k : Nat) : List Value := [ptr L k]
theorem lenP (L : FL) (l : List Nat) : ∀ x ∈ l, (encP L x).length = 1 := fun _ _ => rfl
theorem ptr_ne {L : FL} (hn : (L.map (·.1)).Nodup) {j i : Nat} (hj : j < L.length) (hi : i < L.length) : (L[i]).1 = (L[j]).1 ↔ i = j := by
  constructor
  · intro e
    have hp := List.pairwise_iff_getElem.1 hn
    rcases Nat.lt_trichotomy i j with h | h | h
    · exact absurd (by rw [List.getElem_map, List.getElem_map]; exact e) (hp i j (by simpa using hi) (by simpa using hj) h)
    · exact h
    · exact absurd (by rw [List.getElem_map, List.getElem_map]; exact e.symm) (hp j i (by simpa using hj) (by simpa using hi) h)
  · intro e; subst e; rfl
set_option maxHeartbeats 1000000 in
theorem index_fn (h : PH) (L : FL) (fds : List Nat) (v : Value) (j : Nat) (hj : j < L.length) (hv : Sl (encP L) 1 h v fds) (hl : fds.length ≤ 1000) (hle : ∀ k ∈ fds, k ≤ L.length) (hk : ∀ p ∈ L, h p.1 = some (.cells (encF p.2).toArray 33 (0, 0))) (hn : (L.map (·.1)).Nodup) :
    Does Try.prog 27 [v, .pointer (some ⟨(L[j]).1, 0, none⟩)] [] h (Ret fun r _ _ => ∃ i : Int, r = .int .i64 i ∧ (0 ≤ i ↔ j + 1 ∈ fds)) := by
  refine Does_of_W Try.func27 rfl (n := 19) rfl rfl (by simp only [argE, Nat.reduceAdd] <;> rfl) ?_
  (repeat (first | refine W_seq ?_))
  skip
  refine W_region rfl ?_
  refine WL_is (X_assign rfl rfl) rfl rfl rfl ?_
  (repeat (first | refine WL_nil ?_ | refine Then_normal ?_ | refine W_seq ?_))
  skip
  refine W_region rfl ?_
  refine WL_is (X_move rfl rfl) rfl rfl rfl ?_
  refine WL_is (X_len_sl rfl rfl rfl (by assumption)) rfl rfl rfl ?_
  refine WL_is (X_move rfl rfl) rfl rfl rfl ?_
  (repeat (first | refine WL_nil ?_ | refine Then_normal ?_ | refine W_block ?_))
  refine W_loop (X := Nat) (L := fun k => ⟨[(8, .int .i64 (k : Int)), (7, .int .i64 (fds.length : Int)), (0, v), (1, .pointer (some ⟨(L[j]).1, 0, none⟩))], [], [], h⟩) (p := fun k => k ≤ fds.length ∧ ∀ i (hi : i < k) (hi' : i < fds.length), fds[i] ≠ j + 1) (μ := fun k => fds.length - k) 0 ⟨(by repeat (first | exact SubE_nil | refine SubE_cons rfl ?_)), rfl, SubR.refl _, rfl⟩ ⟨by omega, fun i hi => by omega⟩ ?_
  rintro k ⟨hkl, hgood⟩
  by_cases hlt : k < fds.length
  · (repeat (first | refine W_seq ?_))
    refine W_region rfl ?_
    refine WL_is (X_lss_t rfl rfl rfl (by omega)) rfl rfl rfl ?_
    (repeat (first | refine WL_nil ?_ | refine Then_normal ?_ | refine W_seq ?_ | refine W_skip ?_ | refine W_block ?_ | refine W_true rfl ?_))
    skip
    refine W_region rfl ?_
    refine WL_is (X_move rfl rfl) rfl rfl rfl ?_
    refine WL_is (X_assign rfl rfl) rfl rfl rfl ?_
    (repeat (first | refine WL_nil ?_ | refine Then_normal ?_ | refine W_seq ?_))
    skip
    refine W_region rfl ?_
    refine WL_is (X_move rfl rfl) rfl rfl rfl ?_
    refine WL_is (X_move rfl rfl) rfl rfl rfl ?_
    refine WL_is (X_move rfl rfl) rfl rfl rfl ?_
    (refine WL_index_slN rfl rfl rfl rfl rfl (by assumption) (by omega) rfl rfl rfl ?_; intro p_ hp_)
    refine WL_is (X_load1_at rfl rfl (by assumption) rfl (v := ptr L fds[k]) rfl) rfl rfl rfl ?_
    by_cases h0 : fds[k] = 0
    · rw [h0]
      simp only [ptr]
      refine WL_is (X_eqPn_f rfl rfl rfl rfl) rfl rfl rfl ?_
      (repeat (first | refine WL_nil ?_ | refine Then_normal ?_ | refine W_skip ?_ | refine inBlk_normal ?_ | refine W_false rfl ?_))
      skip
      refine W_region rfl ?_
      refine WL_is (X_addW rfl rfl rfl (by exact wrap_i64_in (by omega) (by omega))) rfl rfl rfl ?_
      refine WL_is (X_move rfl rfl) rfl rfl rfl ?_
      (repeat (first | refine WL_nil ?_ | refine Then_normal ?_))
      refine ⟨k + 1, ⟨(by repeat (first | exact SubE_nil | refine SubE_cons rfl ?_)), rfl, SubR.refl _, rfl⟩, ⟨by omega, fun i hi hi' => ?_⟩, by omega⟩
      rcases Nat.lt_or_ge i k with h1 | h1
      · exact hgood i h1 hi'
      · have : i = k := by omega
        subst this; omega
    · obtain ⟨i, hi, e, hp⟩ := ptr_pos (L := L) (k := fds[k]) (by omega) (hle _ (List.getElem_mem _))
      rw [hp]
      refine WL_is (X_eqPP rfl rfl rfl rfl rfl rfl (hk _ (List.getElem_mem hj)) (hk _ (List.getElem_mem hi))) rfl rfl rfl ?_
      by_cases hij : i = j
      · subst hij
        rw [decide_eq_true rfl]
        (repeat (first | refine WL_nil ?_ | refine Then_normal ?_ | refine W_seq ?_ | refine W_true rfl ?_))
        skip
        refine W_region rfl ?_
        refine WL_is (X_move rfl rfl) rfl rfl rfl ?_
        refine WL_is (X_assign rfl rfl) rfl rfl rfl ?_
        (repeat (first | refine WL_nil ?_ | refine Then_normal ?_ | refine W_ret ?_ | refine Then_ret ?_ | refine inBlk_ret ?_))
        refine Body_end rfl rfl rfl (SubR.none _) ?_
        refine ⟨k, rfl, ⟨fun _ => ?_, fun _ => by omega⟩⟩
        rw [← e]; exact List.getElem_mem _
      · rw [decide_eq_false (fun e3 => hij ((ptr_ne hn hj hi).1 e3.symm))]
        (repeat (first | refine WL_nil ?_ | refine Then_normal ?_ | refine W_skip ?_ | refine inBlk_normal ?_ | refine W_false rfl ?_))
        skip
        refine W_region rfl ?_
        refine WL_is (X_addW rfl rfl rfl (by exact wrap_i64_in (by omega) (by omega))) rfl rfl rfl ?_
        refine WL_is (X_move rfl rfl) rfl rfl rfl ?_
        (repeat (first | refine WL_nil ?_ | refine Then_normal ?_))
        refine ⟨k + 1, ⟨(by repeat (first | exact SubE_nil | refine SubE_cons rfl ?_)), rfl, SubR.refl _, rfl⟩, ⟨by omega, fun i2 hi2 hi2' => ?_⟩, by omega⟩
        rcases Nat.lt_or_ge i2 k with h1 | h1
        · exact hgood i2 h1 hi2'
        · have : i2 = k := by omega
          subst this; omega
  · (repeat (first | refine W_seq ?_))
    refine W_region rfl ?_
    refine WL_is (X_lss_f rfl rfl rfl (by omega)) rfl rfl rfl ?_
    (repeat (first | refine WL_nil ?_ | refine Then_normal ?_ | refine W_seq ?_ | refine W_exit ?_ | refine Then_exit ?_ | refine inBlk_here ?_ | refine W_false rfl ?_))
    skip
    refine W_region rfl ?_
    refine WL_is (X_assign rfl rfl) rfl rfl rfl ?_
    (repeat (first | refine WL_nil ?_ | refine Then_normal ?_ | refine W_ret ?_))
    refine Body_end rfl rfl rfl (SubR.none _) ?_
    refine ⟨-1, rfl, ⟨fun h => by omega, fun hm => ?_⟩⟩
    obtain ⟨i, hi, e⟩ := List.getElem_of_mem hm
    exact absurd e (hgood i (by omega) hi)
set_option maxHeartbeats 1000000 in
theorem contains_fn (h : PH) (L : FL) (fds : List Nat) (v : Value) (j : Nat) (hj : j < L.length) (hv : Sl (encP L) 1 h v fds) (hl : fds.length ≤ 1000) (hle : ∀ k ∈ fds, k ≤ L.length) (hk : ∀ p ∈ L, h p.1 = some (.cells (encF p.2).toArray 33 (0, 0))) (hn : (L.map (·.1)).Nodup) :
    Does Try.prog 26 [v, .pointer (some ⟨(L[j]).1, 0, none⟩)] [] h (Ret fun r _ _ => r = .bool (decide (j + 1 ∈ fds))) := by
  have hi := index_fn h L fds v j hj hv hl hle hk hn
  refine Does_of_W Try.func26 rfl (n := 9) rfl rfl (by simp only [argE, Nat.reduceAdd] <;> rfl) ?_
  (repeat (first | refine W_seq ?_))
  skip
  refine W_region rfl ?_
  refine WL_is (X_assign rfl rfl) rfl rfl rfl ?_
  (repeat (first | refine WL_nil ?_ | refine Then_normal ?_ | refine W_seq ?_))
  skip
  refine W_region rfl ?_
  refine WL_is (X_move rfl rfl) rfl rfl rfl ?_
  refine WL_is (X_move rfl rfl) rfl rfl rfl ?_
  refine WL_call rfl rfl rfl Try.func27 rfl rfl rfl rfl hi ?_
  rintro r R' h2 hl2 ⟨i, rfl, hiff⟩
  by_cases h0 : 0 ≤ i
  · refine WL_is (X_geq_t rfl rfl rfl (by omega)) rfl rfl rfl ?_
    refine WL_is (X_assign rfl rfl) rfl rfl rfl ?_
    (repeat (first | refine WL_nil ?_ | refine Then_normal ?_ | refine W_ret ?_))
    refine Body_end rfl rfl rfl (SubR.none _) ?_
    rw [decide_eq_true (hiff.1 h0)]
  · refine WL_is (X_geq_f rfl rfl rfl (by omega)) rfl rfl rfl ?_
    refine WL_is (X_assign rfl rfl) rfl rfl rfl ?_
    (repeat (first | refine WL_nil ?_ | refine Then_normal ?_ | refine W_ret ?_))
    refine Body_end rfl rfl rfl (SubR.none _) ?_
    rw [decide_eq_false (fun hm => h0 (hiff.2 hm))]
/-- A table lent while it is looked at. -/
theorem contains_lent (h : PH) (b : Nat) (L : FL) (fds : List Nat) (j : Nat) (hj : j < L.length) (hl : fds.length = 8) (hle : ∀ k ∈ fds, k ≤ L.length) :
    Does Try.prog 26 [.slice (some ⟨b, 0, none⟩) 8 8, .pointer (some ⟨(L[j]).1, 0, none⟩)] [tblk b L fds, filesR L] h (Ret fun r R' _ => r = .bool (decide (j + 1 ∈ fds)) ∧ R' = [tblk b L fds, filesR L]) := by
  refine (Does.borrow (A := fun v _ => v = .bool (decide (j + 1 ∈ fds))) ?_).upd fun v R' h' _ ⟨R1, e, hv⟩ => UpdE.sub (R1 := [tblk b L fds, filesR L]) ⟨R1, by rw [e]⟩ ⟨hv, rfl⟩
  intro g hg hle2
  obtain ⟨g1, g2, rfl, hd, r1, g3, g4, rfl, hd2, r2, r3⟩ := hg
  have hs : Sl (encP L) 1 (un h (un g1 (un g3 g4))) (.slice (some ⟨b, 0, none⟩) fds.length fds.length) fds :=
    Sl_of_blk r1 ((le_un_left _ _).trans hle2) (by simp only [List.map_eq_flatMap]; rfl) (lenP L _)
  rw [hl] at hs
  have hk := files_in r2
  have hg3 : le g3 (un h (un g1 (un g3 g4))) := ((le_un_left _ _).trans (le_un_right hd)).trans hle2
  exact contains_fn _ L fds _ j hj hs (by omega) hle (fun p hp => hg3 _ _ (hk p hp)) (files_nodup r2)
end Go.Proofs.Ytmicilnmphkpmaa
