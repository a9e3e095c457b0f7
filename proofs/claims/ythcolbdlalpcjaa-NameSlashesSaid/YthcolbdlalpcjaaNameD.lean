/- Names and paths: what a path is cut into, by the second text. -/
import Derived.Test.YthcolbdlalpcjaaNameC
namespace Go.Proofs.Ythcolbdlalpcjaa
set_option maxRecDepth 4000
open Go Go.Par PH
def partsG : Bs → Bs → List Bs
  | cur, [] => if cur = [] then [] else [cur]
  | cur, c :: l => if c = 47 then (if cur = [] then partsG [] l else cur :: partsG [] l) else partsG (cur ++ [c]) l
def partsL (l : Bs) : List Bs := partsG [] l
def encP (l : Bs) : List Value := [.string (mkB l)]
theorem lenP (l : List Bs) : ∀ x ∈ l, (encP x).length = 1 := fun _ _ => rfl
theorem flatP (l : List Bs) : ∀ x ∈ l, (encP x).all flat = true := fun _ _ => rfl
theorem elemP : ElemT Try.prog 27 9 1 16 := ElemT.mk' rfl rfl
theorem elem8 : ElemT Try.prog 44 5 1 1 := ElemT.mk' rfl rfl
theorem len8 (l : Bs) : ∀ x ∈ l, (encB8 x).length = 1 := fun _ _ => rfl
structure PX where
  i : Nat
  cur : Bs
  out : List Bs
  v : Value
  h : PH
def goodP (l : Bs) (x : PX) : Prop :=
  x.i ≤ l.length + 1 ∧ x.cur.length ≤ x.i ∧ x.out.length ≤ x.i ∧ (if x.i ≤ l.length then x.out ++ partsG x.cur (l.drop x.i) = partsL l else x.out = partsL l)
theorem goodP_0 (l : Bs) (v : Value) (h : PH) : goodP l ⟨0, [], [], v, h⟩ := ⟨Nat.zero_le _, Nat.zero_le _, Nat.zero_le _, by simp [partsL]⟩
theorem goodP_on {l : Bs} {i : Nat} {cur : Bs} {out : List Bs} {v v' : Value} {h h' : PH} (hg : goodP l ⟨i, cur, out, v, h⟩) (hi : i < l.length) (hne : ¬ l[i] = 47) : goodP l ⟨i + 1, cur ++ [l[i]], out, v', h'⟩ := by
  obtain ⟨h1, h2, h3, h4⟩ := hg
  dsimp only at h2 h3 h4
  rw [if_pos (by omega), List.drop_eq_getElem_cons hi] at h4
  simp only [partsG, if_neg hne] at h4
  refine ⟨by dsimp only; omega, by simp; omega, by dsimp only; omega, ?_⟩
  dsimp only
  rw [if_pos (by omega)]; exact h4
theorem goodP_cut {l : Bs} {i : Nat} {cur : Bs} {out : List Bs} {v v' : Value} {h h' : PH} (hg : goodP l ⟨i, cur, out, v, h⟩) (hi : i < l.length) (he : l[i] = 47) : goodP l ⟨i + 1, [], out ++ (if cur = [] then [] else [cur]), v', h'⟩ := by
  obtain ⟨h1, h2, h3, h4⟩ := hg
  dsimp only at h2 h3 h4
  rw [if_pos (by omega), List.drop_eq_getElem_cons hi] at h4
  simp only [partsG, if_pos he] at h4
  refine ⟨by dsimp only; omega, by simp, by dsimp only; split <;> simp <;> omega, ?_⟩
  dsimp only
  rw [if_pos (by omega), ← h4, List.append_assoc]
  by_cases hc : cur = [] <;> simp [hc]
theorem goodP_end {l : Bs} {cur : Bs} {out : List Bs} {v v' : Value} {h h' : PH} (hg : goodP l ⟨l.length, cur, out, v, h⟩) : goodP l ⟨l.length + 1, [], out ++ (if cur = [] then [] else [cur]), v', h'⟩ := by
  obtain ⟨h1, h2, h3, h4⟩ := hg
  dsimp only at h2 h3 h4
  rw [if_pos (Nat.le_refl _), List.drop_eq_nil_of_le (Nat.le_refl _)] at h4
  simp only [partsG] at h4
  refine ⟨by dsimp only; omega, by simp, by dsimp only; split <;> simp <;> omega, ?_⟩
  dsimp only
  rw [if_neg (by omega)]; exact h4
attribute [local irreducible] W WL Does Exec Body Then inBlk RG WR row obj pblk
set_option maxHeartbeats 1000000 in
theorem parts_ref (h : PH) (l : Bs) (hl : l.length ≤ 1000000) : Does Try.prog 27 [.string (mkB l)] [] h (Ret fun r R' h' => Sl encP 1 h' r (partsL l) ∧ R' = []) := by
  have hsz := mkB_size l
  have n0 : (mkB [] == (⟨#[]⟩ : ByteArray)) = true := mkB_beq [] []
  refine Does_of_W Try.func27 rfl (n := 36) rfl rfl (by simp only [argE] <;> rfl) ?_
  (repeat (first | refine W_seq ?_))
  skip
  refine W_region rfl ?_
  refine WL_is (X_assign rfl rfl) rfl rfl rfl ?_
  (repeat (first | refine WL_nil ?_ | refine Then_normal ?_ | refine W_seq ?_))
  skip
  refine W_region rfl ?_
  refine WL_is (X_assign rfl rfl) rfl rfl rfl ?_
  (repeat (first | refine WL_nil ?_ | refine Then_normal ?_ | refine W_seq ?_))
  skip
  refine W_region rfl ?_
  refine WL_is (X_assign rfl rfl) rfl rfl rfl ?_
  (repeat (first | refine WL_nil ?_ | refine Then_normal ?_ | refine W_seq ?_))
  skip
  refine W_region rfl ?_
  refine WL_is (X_assign rfl rfl) rfl rfl rfl ?_
  (repeat (first | refine WL_nil ?_ | refine Then_normal ?_ | refine W_block ?_))
  refine W_upd (Upd.nilrow (e := 9) (sz := 1)) ?_
  refine W_loop (X := PX) (L := fun x => ⟨[(5, .int .i64 (x.i : Int)), (4, .string (mkB x.cur)), (3, x.v), (0, .string (mkB l))], [], [rowL encP x.v 9 1 x.out], x.h⟩) (p := fun x => goodP l x ∧ le h x.h) (μ := fun x => l.length + 1 - x.i) ⟨0, [], [], .slice none 0 0, h⟩ ⟨(by repeat (first | exact SubE_nil | refine SubE_cons rfl ?_)), rfl, SubR.refl _, rfl⟩ ⟨goodP_0 _ _ _, le.refl _⟩ ?_
  rintro ⟨i, cur, out, w, h1⟩ ⟨hg, hle1⟩
  dsimp only at hle1 ⊢
  have hi := hg.1
  have hcl := hg.2.1
  have hol := hg.2.2.1
  dsimp only at hi hcl hol
  have hcs := mkB_size cur
  have hce : (mkB cur == (⟨#[]⟩ : ByteArray)) = decide (cur = []) := mkB_beq cur []
  by_cases hin : i ≤ l.length
  · have hini : (i : Int) ≤ (mkB l).size := by omega
    have cutting : (¬ (i < l.length ∧ ∀ hh : i < l.length, ¬ l[i] = 47)) → goodP l ⟨i + 1, [], out ++ (if cur = [] then [] else [cur]), w, h1⟩ := fun hx => by
      by_cases hlt : i < l.length
      · have : l[i] = 47 := Classical.byContradiction fun hne => hx ⟨hlt, fun _ => hne⟩
        exact goodP_cut hg hlt this
      · have : i = l.length := by omega
        subst this
        exact goodP_end hg
    by_cases hlt : i < l.length
    · have hlti : (i : Int) < (mkB l).size := by omega
      have hc : (mkB l).data.toList[(i : Int).toNat]? = some l[i] := by rw [mkB_list]; simp
      have hbe := byte_eq (c := l[i]) (d := 47)
      by_cases h47 : l[i] = 47
      · have h47i : ((l[i]).toNat : Int) = 47 := hbe.2 h47
        have hg2 := goodP_cut (v' := w) (h' := h1) hg hlt h47
        by_cases hcur : cur = []
        · rw [decide_eq_true hcur] at hce
          rw [if_pos hcur, List.append_nil] at hg2
          (repeat (first | refine W_seq ?_))
          refine W_region rfl ?_
          refine WL_is (X_move rfl rfl) rfl rfl rfl ?_
          refine WL_is (X_move rfl rfl) rfl rfl rfl ?_
          refine WL_is (X_len_str rfl rfl rfl) rfl rfl rfl ?_
          refine WL_is (X_leq_t rfl rfl rfl (by omega)) rfl rfl rfl ?_
          (repeat (first | refine WL_nil ?_ | refine Then_normal ?_ | refine W_seq ?_ | refine W_skip ?_ | refine W_block ?_ | refine W_true rfl ?_))
          skip
          refine W_region rfl ?_
          refine WL_is (X_move rfl rfl) rfl rfl rfl ?_
          refine WL_is (X_move rfl rfl) rfl rfl rfl ?_
          refine WL_is (X_len_str rfl rfl rfl) rfl rfl rfl ?_
          refine WL_is (X_lss_t rfl rfl rfl (by omega)) rfl rfl rfl ?_
          refine WL_is (X_move rfl rfl) rfl rfl rfl ?_
          refine WL_is (X_move rfl rfl) rfl rfl rfl ?_
          refine WL_is (X_move rfl rfl) rfl rfl rfl ?_
          refine WL_is (X_index_str rfl rfl rfl rfl (by omega) (by assumption)) rfl rfl rfl ?_
          refine WL_is (X_neq_f rfl rfl rfl (by omega)) rfl rfl rfl ?_
          refine WL_is (X_pick_t rfl rfl rfl) rfl rfl rfl ?_
          (repeat (first | refine WL_nil ?_ | refine Then_normal ?_ | refine W_seq ?_ | refine W_skip ?_ | refine W_false rfl ?_))
          skip
          refine W_region rfl ?_
          refine WL_is (X_move rfl rfl) rfl rfl rfl ?_
          refine WL_is (X_neS_c rfl rfl rfl (by assumption)) rfl rfl rfl ?_
          (repeat (first | refine WL_nil ?_ | refine Then_normal ?_ | refine W_skip ?_ | refine W_false rfl ?_))
          skip
          refine W_region rfl ?_
          refine WL_is (X_assign rfl rfl) rfl rfl rfl ?_
          (repeat (first | refine WL_nil ?_ | refine Then_normal ?_ | refine inBlk_normal ?_))
          skip
          refine W_region rfl ?_
          refine WL_is (X_move rfl rfl) rfl rfl rfl ?_
          refine WL_is (X_addW rfl rfl rfl (by exact wrap_i64_in (by omega) (by omega))) rfl rfl rfl ?_
          refine WL_is (X_assign rfl rfl) rfl rfl rfl ?_
          (repeat (first | refine WL_nil ?_ | refine Then_normal ?_))
          exact ⟨⟨i + 1, [], out, w, h1⟩, ⟨(by repeat (first | exact SubE_nil | refine SubE_cons rfl ?_)), rfl, SubR.refl _, rfl⟩, ⟨hg2, hle1⟩, by dsimp only; omega⟩
        · rw [decide_eq_false hcur] at hce
          rw [if_neg hcur] at hg2
          (repeat (first | refine W_seq ?_))
          refine W_region rfl ?_
          refine WL_is (X_move rfl rfl) rfl rfl rfl ?_
          refine WL_is (X_move rfl rfl) rfl rfl rfl ?_
          refine WL_is (X_len_str rfl rfl rfl) rfl rfl rfl ?_
          refine WL_is (X_leq_t rfl rfl rfl (by omega)) rfl rfl rfl ?_
          (repeat (first | refine WL_nil ?_ | refine Then_normal ?_ | refine W_seq ?_ | refine W_skip ?_ | refine W_block ?_ | refine W_true rfl ?_))
          skip
          refine W_region rfl ?_
          refine WL_is (X_move rfl rfl) rfl rfl rfl ?_
          refine WL_is (X_move rfl rfl) rfl rfl rfl ?_
          refine WL_is (X_len_str rfl rfl rfl) rfl rfl rfl ?_
          refine WL_is (X_lss_t rfl rfl rfl (by omega)) rfl rfl rfl ?_
          refine WL_is (X_move rfl rfl) rfl rfl rfl ?_
          refine WL_is (X_move rfl rfl) rfl rfl rfl ?_
          refine WL_is (X_move rfl rfl) rfl rfl rfl ?_
          refine WL_is (X_index_str rfl rfl rfl rfl (by omega) (by assumption)) rfl rfl rfl ?_
          refine WL_is (X_neq_f rfl rfl rfl (by omega)) rfl rfl rfl ?_
          refine WL_is (X_pick_t rfl rfl rfl) rfl rfl rfl ?_
          (repeat (first | refine WL_nil ?_ | refine Then_normal ?_ | refine W_seq ?_ | refine W_skip ?_ | refine W_false rfl ?_))
          skip
          refine W_region rfl ?_
          refine WL_is (X_move rfl rfl) rfl rfl rfl ?_
          refine WL_is (X_neS_c rfl rfl rfl (by assumption)) rfl rfl rfl ?_
          (repeat (first | refine WL_nil ?_ | refine Then_normal ?_ | refine W_true rfl ?_))
          skip
          refine W_region rfl ?_
          refine WL_is (X_move rfl rfl) rfl rfl rfl ?_
          refine WL_is (X_move rfl rfl) rfl rfl rfl ?_
          refine WL_buildSl (enc := encP) [cur] (lenP _) rfl rfl rfl rfl rfl rfl rfl rfl rfl rfl rfl rfl rfl rfl rfl ?_
          intro u h2 hle hu
          refine WL_append (enc := encP) (i := 0) rfl rfl rfl elemP rfl rfl (Src.sl hu) (flatP _) (by simp only [List.length_singleton]; omega) (by simp only [List.length_singleton]; omega) rfl rfl rfl ?_
          intro w'
          simp only [List.set_cons_zero]
          refine WL_is (X_assign rfl rfl) rfl rfl rfl ?_
          (repeat (first | refine WL_nil ?_ | refine Then_normal ?_))
          skip
          refine W_region rfl ?_
          refine WL_is (X_assign rfl rfl) rfl rfl rfl ?_
          (repeat (first | refine WL_nil ?_ | refine Then_normal ?_ | refine inBlk_normal ?_))
          skip
          refine W_region rfl ?_
          refine WL_is (X_move rfl rfl) rfl rfl rfl ?_
          refine WL_is (X_addW rfl rfl rfl (by exact wrap_i64_in (by omega) (by omega))) rfl rfl rfl ?_
          refine WL_is (X_assign rfl rfl) rfl rfl rfl ?_
          (repeat (first | refine WL_nil ?_ | refine Then_normal ?_))
          exact ⟨⟨i + 1, [], out ++ [cur], w', h2⟩, ⟨(by repeat (first | exact SubE_nil | refine SubE_cons rfl ?_)), rfl, SubR.refl _, rfl⟩, ⟨hg2, hle1.trans hle⟩, by dsimp only; omega⟩
      · have h47i : ¬ ((l[i]).toNat : Int) = 47 := fun e => h47 (hbe.1 e)
        have ha := mkB_append cur [l[i]]
        have h1s : (⟨#[l[i]]⟩ : ByteArray).size = 1 := rfl
        (repeat (first | refine W_seq ?_))
        refine W_region rfl ?_
        refine WL_is (X_move rfl rfl) rfl rfl rfl ?_
        refine WL_is (X_move rfl rfl) rfl rfl rfl ?_
        refine WL_is (X_len_str rfl rfl rfl) rfl rfl rfl ?_
        refine WL_is (X_leq_t rfl rfl rfl (by omega)) rfl rfl rfl ?_
        (repeat (first | refine WL_nil ?_ | refine Then_normal ?_ | refine W_seq ?_ | refine W_skip ?_ | refine W_block ?_ | refine W_true rfl ?_))
        skip
        refine W_region rfl ?_
        refine WL_is (X_move rfl rfl) rfl rfl rfl ?_
        refine WL_is (X_move rfl rfl) rfl rfl rfl ?_
        refine WL_is (X_len_str rfl rfl rfl) rfl rfl rfl ?_
        refine WL_is (X_lss_t rfl rfl rfl (by omega)) rfl rfl rfl ?_
        refine WL_is (X_move rfl rfl) rfl rfl rfl ?_
        refine WL_is (X_move rfl rfl) rfl rfl rfl ?_
        refine WL_is (X_move rfl rfl) rfl rfl rfl ?_
        refine WL_is (X_index_str rfl rfl rfl rfl (by omega) (by assumption)) rfl rfl rfl ?_
        refine WL_is (X_neq_t rfl rfl rfl (by omega)) rfl rfl rfl ?_
        refine WL_is (X_pick_t rfl rfl rfl) rfl rfl rfl ?_
        (repeat (first | refine WL_nil ?_ | refine Then_normal ?_ | refine W_seq ?_ | refine W_true rfl ?_))
        skip
        refine W_region rfl ?_
        refine WL_is (X_move rfl rfl) rfl rfl rfl ?_
        refine WL_is (X_move rfl rfl) rfl rfl rfl ?_
        refine WL_is (X_move rfl rfl) rfl rfl rfl ?_
        refine WL_is (X_index_str rfl rfl rfl rfl (by omega) (by assumption)) rfl rfl rfl ?_
        refine WL_buildSl (enc := encB8) [l[i]] (len8 _) rfl rfl rfl rfl rfl rfl rfl rfl rfl rfl rfl rfl rfl rfl rfl ?_
        intro u h2 hle hu
        refine WL_is (X_convB1 rfl rfl rfl rfl rfl hu) rfl rfl rfl ?_
        refine WL_is (X_addS rfl rfl rfl (by omega)) rfl rfl rfl ?_
        rw [show mkB cur ++ (⟨#[l[i]]⟩ : ByteArray) = mkB (cur ++ [l[i]]) from ha]
        refine WL_is (X_assign rfl rfl) rfl rfl rfl ?_
        (repeat (first | refine WL_nil ?_ | refine Then_normal ?_ | refine W_exit ?_ | refine Then_exit ?_ | refine inBlk_here ?_))
        skip
        refine W_region rfl ?_
        refine WL_is (X_move rfl rfl) rfl rfl rfl ?_
        refine WL_is (X_addW rfl rfl rfl (by exact wrap_i64_in (by omega) (by omega))) rfl rfl rfl ?_
        refine WL_is (X_assign rfl rfl) rfl rfl rfl ?_
        (repeat (first | refine WL_nil ?_ | refine Then_normal ?_))
        exact ⟨⟨i + 1, cur ++ [l[i]], out, w, h2⟩, ⟨(by repeat (first | exact SubE_nil | refine SubE_cons rfl ?_)), rfl, SubR.refl _, rfl⟩, ⟨goodP_on hg hlt h47, hle1.trans hle⟩, by dsimp only; omega⟩
    · have hlti : ¬ (i : Int) < (mkB l).size := by omega
      have hg2 := cutting (fun hx => hlt hx.1)
      by_cases hcur : cur = []
      · rw [decide_eq_true hcur] at hce
        rw [if_pos hcur, List.append_nil] at hg2
        (repeat (first | refine W_seq ?_))
        refine W_region rfl ?_
        refine WL_is (X_move rfl rfl) rfl rfl rfl ?_
        refine WL_is (X_move rfl rfl) rfl rfl rfl ?_
        refine WL_is (X_len_str rfl rfl rfl) rfl rfl rfl ?_
        refine WL_is (X_leq_t rfl rfl rfl (by omega)) rfl rfl rfl ?_
        (repeat (first | refine WL_nil ?_ | refine Then_normal ?_ | refine W_seq ?_ | refine W_skip ?_ | refine W_block ?_ | refine W_true rfl ?_))
        skip
        refine W_region rfl ?_
        refine WL_is (X_move rfl rfl) rfl rfl rfl ?_
        refine WL_is (X_move rfl rfl) rfl rfl rfl ?_
        refine WL_is (X_len_str rfl rfl rfl) rfl rfl rfl ?_
        refine WL_is (X_lss_f rfl rfl rfl (by omega)) rfl rfl rfl ?_
        refine WL_is (X_move rfl rfl) rfl rfl rfl ?_
        refine WL_off rfl rfl rfl ?_
        refine WL_off rfl rfl rfl ?_
        refine WL_off rfl rfl rfl ?_
        refine WL_off rfl rfl rfl ?_
        refine WL_is (X_pick_f rfl rfl rfl) rfl rfl rfl ?_
        (repeat (first | refine WL_nil ?_ | refine Then_normal ?_ | refine W_seq ?_ | refine W_skip ?_ | refine W_false rfl ?_))
        skip
        refine W_region rfl ?_
        refine WL_is (X_move rfl rfl) rfl rfl rfl ?_
        refine WL_is (X_neS_c rfl rfl rfl (by assumption)) rfl rfl rfl ?_
        (repeat (first | refine WL_nil ?_ | refine Then_normal ?_ | refine W_skip ?_ | refine W_false rfl ?_))
        skip
        refine W_region rfl ?_
        refine WL_is (X_assign rfl rfl) rfl rfl rfl ?_
        (repeat (first | refine WL_nil ?_ | refine Then_normal ?_ | refine inBlk_normal ?_))
        skip
        refine W_region rfl ?_
        refine WL_is (X_move rfl rfl) rfl rfl rfl ?_
        refine WL_is (X_addW rfl rfl rfl (by exact wrap_i64_in (by omega) (by omega))) rfl rfl rfl ?_
        refine WL_is (X_assign rfl rfl) rfl rfl rfl ?_
        (repeat (first | refine WL_nil ?_ | refine Then_normal ?_))
        exact ⟨⟨i + 1, [], out, w, h1⟩, ⟨(by repeat (first | exact SubE_nil | refine SubE_cons rfl ?_)), rfl, SubR.refl _, rfl⟩, ⟨hg2, hle1⟩, by dsimp only; omega⟩
      · rw [decide_eq_false hcur] at hce
        rw [if_neg hcur] at hg2
        (repeat (first | refine W_seq ?_))
        refine W_region rfl ?_
        refine WL_is (X_move rfl rfl) rfl rfl rfl ?_
        refine WL_is (X_move rfl rfl) rfl rfl rfl ?_
        refine WL_is (X_len_str rfl rfl rfl) rfl rfl rfl ?_
        refine WL_is (X_leq_t rfl rfl rfl (by omega)) rfl rfl rfl ?_
        (repeat (first | refine WL_nil ?_ | refine Then_normal ?_ | refine W_seq ?_ | refine W_skip ?_ | refine W_block ?_ | refine W_true rfl ?_))
        skip
        refine W_region rfl ?_
        refine WL_is (X_move rfl rfl) rfl rfl rfl ?_
        refine WL_is (X_move rfl rfl) rfl rfl rfl ?_
        refine WL_is (X_len_str rfl rfl rfl) rfl rfl rfl ?_
        refine WL_is (X_lss_f rfl rfl rfl (by omega)) rfl rfl rfl ?_
        refine WL_is (X_move rfl rfl) rfl rfl rfl ?_
        refine WL_off rfl rfl rfl ?_
        refine WL_off rfl rfl rfl ?_
        refine WL_off rfl rfl rfl ?_
        refine WL_off rfl rfl rfl ?_
        refine WL_is (X_pick_f rfl rfl rfl) rfl rfl rfl ?_
        (repeat (first | refine WL_nil ?_ | refine Then_normal ?_ | refine W_seq ?_ | refine W_skip ?_ | refine W_false rfl ?_))
        skip
        refine W_region rfl ?_
        refine WL_is (X_move rfl rfl) rfl rfl rfl ?_
        refine WL_is (X_neS_c rfl rfl rfl (by assumption)) rfl rfl rfl ?_
        (repeat (first | refine WL_nil ?_ | refine Then_normal ?_ | refine W_true rfl ?_))
        skip
        refine W_region rfl ?_
        refine WL_is (X_move rfl rfl) rfl rfl rfl ?_
        refine WL_is (X_move rfl rfl) rfl rfl rfl ?_
        refine WL_buildSl (enc := encP) [cur] (lenP _) rfl rfl rfl rfl rfl rfl rfl rfl rfl rfl rfl rfl rfl rfl rfl ?_
        intro u h2 hle hu
        refine WL_append (enc := encP) (i := 0) rfl rfl rfl elemP rfl rfl (Src.sl hu) (flatP _) (by simp only [List.length_singleton]; omega) (by simp only [List.length_singleton]; omega) rfl rfl rfl ?_
        intro w'
        simp only [List.set_cons_zero]
        refine WL_is (X_assign rfl rfl) rfl rfl rfl ?_
        (repeat (first | refine WL_nil ?_ | refine Then_normal ?_))
        skip
        refine W_region rfl ?_
        refine WL_is (X_assign rfl rfl) rfl rfl rfl ?_
        (repeat (first | refine WL_nil ?_ | refine Then_normal ?_ | refine inBlk_normal ?_))
        skip
        refine W_region rfl ?_
        refine WL_is (X_move rfl rfl) rfl rfl rfl ?_
        refine WL_is (X_addW rfl rfl rfl (by exact wrap_i64_in (by omega) (by omega))) rfl rfl rfl ?_
        refine WL_is (X_assign rfl rfl) rfl rfl rfl ?_
        (repeat (first | refine WL_nil ?_ | refine Then_normal ?_))
        exact ⟨⟨i + 1, [], out ++ [cur], w', h2⟩, ⟨(by repeat (first | exact SubE_nil | refine SubE_cons rfl ?_)), rfl, SubR.refl _, rfl⟩, ⟨hg2, hle1.trans hle⟩, by dsimp only; omega⟩
  · have hini : ¬ (i : Int) ≤ (mkB l).size := by omega
    have hfin := hg.2.2.2
    dsimp only at hfin
    rw [if_neg hin] at hfin
    (repeat (first | refine W_seq ?_))
    refine W_region rfl ?_
    refine WL_is (X_move rfl rfl) rfl rfl rfl ?_
    refine WL_is (X_move rfl rfl) rfl rfl rfl ?_
    refine WL_is (X_len_str rfl rfl rfl) rfl rfl rfl ?_
    refine WL_is (X_leq_f rfl rfl rfl (by omega)) rfl rfl rfl ?_
    (repeat (first | refine WL_nil ?_ | refine Then_normal ?_ | refine W_seq ?_ | refine W_exit ?_ | refine Then_exit ?_ | refine inBlk_here ?_ | refine W_false rfl ?_))
    skip
    refine W_region rfl ?_
    refine WL_is (X_move rfl rfl) rfl rfl rfl ?_
    refine WL_is (X_assign rfl rfl) rfl rfl rfl ?_
    (repeat (first | refine WL_nil ?_ | refine Then_normal ?_ | refine W_ret ?_))
    refine Body_vals (.cons (.tmp rfl) .nil) rfl ?_
    refine (UpdE.row (enc := encP) 0 rfl (lenP _)).mono ?_
    rintro _ H2 - ⟨rfl, hs⟩
    rw [hfin] at hs
    exact ⟨hs, rfl⟩
end Go.Proofs.Ythcolbdlalpcjaa
