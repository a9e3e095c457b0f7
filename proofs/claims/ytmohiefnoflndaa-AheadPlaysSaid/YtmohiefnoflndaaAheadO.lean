/- Words ahead: the document's list: a word for a place. -/
import Derived.Test.YtmohiefnoflndaaAheadN
namespace Go.Proofs.Ytmohiefnoflndaa
set_option maxRecDepth 4000
open Go Go.Par PH
/-- The document's table: its list lies in a block of its own. -/
def refS (rb : Nat) (L : List (Int × Int)) : SL := pack (fun rv : Value => [blk rb [rv] 30, rowL encR rv 38 2 L]) (fun _ => True)
theorem UpdE.refO {rb : Nat} {L : List (Int × Int)} {R : List SL} {h : PH} : UpdE (refS rb L :: R) h fun R' h' => h' = h ∧ ∃ rv, R' = blk rb [rv] 30 :: rowL encR rv 38 2 L :: R := fun κ h0 f w _ s => by
  obtain ⟨rv, _, s⟩ := s.unpack
  exact ⟨_, h, le.refl _, ⟨rfl, rv, rfl⟩, s⟩
theorem Upd.refC {rb : Nat} {rv : Value} {L : List (Int × Int)} {R : List SL} {h : PH} : Upd (blk rb [rv] 30 :: rowL encR rv 38 2 L :: R) h (refS rb L :: R) h := fun κ h0 f w _ s =>
  St.pack (RI := fun rv : Value => [blk rb [rv] 30, rowL encR rv 38 2 L]) rv trivial s
theorem refEnd {rb : Nat} {rv : Value} {L : List (Int × Int)} {R : List SL} {h : PH} (hs : SubR R [blk rb [rv] 30, rowL encR rv 38 2 L]) : UpdE R h fun R' h' => R' = [refS rb L] ∧ h' = h := fun κ h0 f w hf s =>
  ⟨_, h, le.refl _, ⟨rfl, rfl⟩, Upd.refC κ h0 f w hf (Upd.sub hs κ h0 f w hf s)⟩
instance decR : Dec encR 2 where
  len _ := rfl
  dec c := match c with
    | [.int .i64 a, .int .u64 b] => some (a, b)
    | _ => none
  ok c x h := by
    revert h
    split
    · intro h; cases h; rfl
    · intro h; cases h
attribute [local irreducible] W WL Does Exec Body Then inBlk RG WR row obj pblk
set_option maxHeartbeats 8000000 in
theorem put_ref (h : PH) (rb : Nat) (L : List (Int × Int)) (x : Int × Int) (hL : L.length ≤ 1000000000) : Does Try.prog 21 [.pointer (some ⟨rb, 0, none⟩), .agg (encR x).toArray] [refS rb L] h (Ret fun _ R' _ => R' = [refS rb (insR L x)]) := by
  obtain ⟨xa, xw⟩ := x
  unfold encR
  refine Does_of_W Try.func21 rfl (n := 80) rfl rfl (by simp only [argE, Nat.reduceAdd] <;> rfl) ?_
  refine W_updE UpdE.refO ?_
  rintro _ h - ⟨rfl, rv, rfl⟩
  refine W_updE (UpdE.shapeL 1 rfl) ?_
  rintro _ h - ⟨rfl, rfl, a, cap, rfl⟩
  by_cases h0 : L.length = 0
  · (repeat (first | refine W_seq ?_))
    skip
    refine W_region rfl ?_
    (refine WL_box rfl rfl rfl rfl rfl rfl ?_; intro b_)
    (repeat (first | refine WL_nil ?_ | refine Then_normal ?_ | refine W_seq ?_))
    skip
    refine W_region rfl ?_
    refine WL_is (X_assign rfl rfl) rfl rfl rfl ?_
    (repeat (first | refine WL_nil ?_ | refine Then_normal ?_ | refine W_seq ?_ | refine W_block ?_))
    generalize b_ = bx
    refine W_loop (X := Nat) (L := fun i => ⟨[(4, .int .i64 (i : Int)), (3, .pointer (some ⟨bx, 0, none⟩)), (0, .pointer (some ⟨rb, 0, none⟩))], [], [blk bx [.int .i64 xa, .int .u64 xw] 38, blk rb [.slice a L.length cap] 30, rowL encR (.slice a L.length cap) 38 2 L], h⟩) (p := fun i => i ≤ L.length ∧ ∀ j (h : j < i) (h' : j < L.length), (L[j]'(h')).1 < xa) (μ := fun i => L.length - i) 0 ⟨(by repeat (first | exact SubE_nil | refine SubE_cons rfl ?_)), rfl, SubR.refl _, rfl⟩ ⟨Nat.zero_le _, fun j hj => by omega⟩ ?_
    rintro i ⟨hi, hlo⟩
    have hi0 : i = 0 := by omega
    have hins : insR L (xa, xw) = L.take i ++ [(xa, xw)] ++ L.drop i := by
      have hl0 := List.eq_nil_of_length_eq_zero h0
      subst hl0; subst hi0; rfl
    (repeat (first | refine W_seq ?_))
    refine W_draw0 18 rfl rfl rfl rfl ?_
    refine RG_val rfl rfl (fun _ => rfl) (fun _ => X_move rfl rfl) ?_
    refine RG_val rfl rfl (fun _ => rfl) (fun _ => X_move rfl rfl) ?_
    refine RG_val rfl rfl (fun _ => rfl) (fun _ => X_nilCheck rfl rfl) ?_
    refine RG_val rfl rfl (fun _ => rfl) (fun _ => X_fieldAddr rfl rfl rfl (by simp only [Nat.zero_add] <;> rfl)) ?_
    refine RG_val rfl rfl (fun _ => rfl) (fun _ => X_load1 rfl rfl (by exact idx1) rfl rfl) ?_
    refine RG_val rfl rfl (fun _ => rfl) (fun _ => X_len rfl rfl rfl) ?_
    refine RG_val rfl rfl (fun _ => rfl) (fun _ => X_lss_f rfl rfl rfl (by omega)) ?_
    refine RG_val rfl rfl (fun _ => rfl) (fun _ => X_move rfl rfl) ?_
    refine RG_off rfl rfl (fun _ => rfl) ?_
    refine RG_off rfl rfl (fun _ => rfl) ?_
    refine RG_off rfl rfl (fun _ => rfl) ?_
    refine RG_off rfl rfl (fun _ => rfl) ?_
    refine RG_off rfl rfl (fun _ => rfl) ?_
    refine RG_off rfl rfl (fun _ => rfl) ?_
    refine RG_off rfl rfl (fun _ => rfl) ?_
    refine RG_off rfl rfl (fun _ => rfl) ?_
    refine RG_off rfl rfl (fun _ => rfl) ?_
    refine RG_off rfl rfl (fun _ => rfl) ?_
    refine RG_nil ?_
    refine RG_endv rfl (fun vs => by simp only [endE, List.cons_append, List.nil_append] <;> rfl) (fun vs => rfl) ?_
    refine WL_off rfl rfl rfl ?_
    refine WL_is (X_pick_f rfl rfl rfl) rfl rfl rfl ?_
    (repeat (first | refine WL_nil ?_ | refine Then_normal ?_ | refine W_seq ?_ | refine W_exit ?_ | refine Then_exit ?_ | refine inBlk_here ?_ | refine W_false rfl ?_))
    skip
    refine W_draw0 18 rfl rfl rfl rfl ?_
    refine RG_val rfl rfl (fun _ => rfl) (fun _ => X_move rfl rfl) ?_
    refine RG_val rfl rfl (fun _ => rfl) (fun _ => X_move rfl rfl) ?_
    refine RG_val rfl rfl (fun _ => rfl) (fun _ => X_nilCheck rfl rfl) ?_
    refine RG_val rfl rfl (fun _ => rfl) (fun _ => X_fieldAddr rfl rfl rfl (by simp only [Nat.zero_add] <;> rfl)) ?_
    refine RG_val rfl rfl (fun _ => rfl) (fun _ => X_load1 rfl rfl (by exact idx1) rfl rfl) ?_
    refine RG_val rfl rfl (fun _ => rfl) (fun _ => X_len rfl rfl rfl) ?_
    refine RG_val rfl rfl (fun _ => rfl) (fun _ => X_lss_f rfl rfl rfl (by omega)) ?_
    refine RG_val rfl rfl (fun _ => rfl) (fun _ => X_move rfl rfl) ?_
    refine RG_off rfl rfl (fun _ => rfl) ?_
    refine RG_off rfl rfl (fun _ => rfl) ?_
    refine RG_off rfl rfl (fun _ => rfl) ?_
    refine RG_off rfl rfl (fun _ => rfl) ?_
    refine RG_off rfl rfl (fun _ => rfl) ?_
    refine RG_off rfl rfl (fun _ => rfl) ?_
    refine RG_off rfl rfl (fun _ => rfl) ?_
    refine RG_off rfl rfl (fun _ => rfl) ?_
    refine RG_off rfl rfl (fun _ => rfl) ?_
    refine RG_off rfl rfl (fun _ => rfl) ?_
    refine RG_nil ?_
    refine RG_endv rfl (fun vs => by simp only [endE, List.cons_append, List.nil_append] <;> rfl) (fun vs => rfl) ?_
    refine WL_off rfl rfl rfl ?_
    refine WL_is (X_pick_f rfl rfl rfl) rfl rfl rfl ?_
    (repeat (first | refine WL_nil ?_ | refine Then_normal ?_ | refine W_seq ?_ | refine W_skip ?_ | refine W_false rfl ?_))
    skip
    refine W_region rfl ?_
    refine WL_updE (UpdE.row (enc := encR) 2 rfl (lenR _)) ?_
    rintro _ h2 hl2 ⟨rfl, hsl⟩
    simp only [List.eraseIdx_cons_succ, List.eraseIdx_cons_zero]
    have hcap := hsl.capLe
    refine WL_is (X_assign rfl rfl) rfl rfl rfl ?_
    (repeat (first | refine WL_nil ?_ | refine Then_normal ?_ | refine W_seq ?_))
    skip
    refine W_region rfl ?_
    refine WL_is (X_move rfl rfl) rfl rfl rfl ?_
    refine WL_is (X_move rfl rfl) rfl rfl rfl ?_
    refine WL_is (X_nilCheck rfl rfl) rfl rfl rfl ?_
    refine WL_is (X_fieldAddr rfl rfl rfl (by simp only [Nat.zero_add] <;> rfl)) rfl rfl rfl ?_
    refine WL_is (X_load1 rfl rfl (by exact idx1) rfl rfl) rfl rfl rfl ?_
    refine WL_is (X_move rfl rfl) rfl rfl rfl ?_
    refine WL_is (X_sliceHiG (sz := 2) (j := i) rfl rfl rfl rfl rfl (by omega)) rfl rfl rfl ?_
    refine WL_append_nil (enc := encR) (L' := L.take i) rfl rfl rfl elemR rfl (Src.sl (hsl.upto hi)) (flatR _) (by simp only [List.length_take]; omega) (by simp only [List.length_take]; omega) rfl rfl rfl ?_
    intro l1
    refine WL_is (X_assign rfl rfl) rfl rfl rfl ?_
    (repeat (first | refine WL_nil ?_ | refine Then_normal ?_ | refine W_seq ?_))
    skip
    refine W_region rfl ?_
    refine WL_is (X_move rfl rfl) rfl rfl rfl ?_
    refine WL_is (X_loadA rfl rfl (by exact idx1) rfl rfl rfl) rfl rfl rfl ?_
    refine WL_buildSlice rfl rfl rfl rfl rfl rfl rfl rfl rfl rfl rfl rfl rfl ?_
    intro ub
    refine WL_append (enc := encR) (L' := [(xa, xw)]) (i := 1) rfl rfl rfl elemR rfl rfl (Src.own (i := 0) (c := encR (xa, xw)) rfl rfl) (flatR _) (by simp only [List.length_cons, List.length_nil, List.length_take]; omega) (by simp only [List.length_cons, List.length_nil, List.length_take]; omega) rfl rfl rfl ?_
    intro l2
    simp only [List.set_cons_zero, List.set_cons_succ]
    refine WL_is (X_assign rfl rfl) rfl rfl rfl ?_
    (repeat (first | refine WL_nil ?_ | refine Then_normal ?_))
    skip
    refine W_region rfl ?_
    refine WL_is (X_move rfl rfl) rfl rfl rfl ?_
    refine WL_is (X_move rfl rfl) rfl rfl rfl ?_
    refine WL_is (X_move rfl rfl) rfl rfl rfl ?_
    refine WL_is (X_nilCheck rfl rfl) rfl rfl rfl ?_
    refine WL_is (X_fieldAddr rfl rfl rfl (by simp only [Nat.zero_add] <;> rfl)) rfl rfl rfl ?_
    refine WL_is (X_load1 rfl rfl (by exact idx3) rfl rfl) rfl rfl rfl ?_
    refine WL_is (X_move rfl rfl) rfl rfl rfl ?_
    refine WL_is (X_sliceLoG (sz := 2) (j := i) rfl rfl rfl rfl rfl (by omega)) rfl rfl rfl ?_
    refine WL_append (enc := encR) (L' := L.drop i) (i := 1) rfl rfl rfl elemR rfl rfl (Src.sl (hsl.from hi)) (flatR _) (by simp only [List.length_append, List.length_cons, List.length_nil, List.length_take, List.length_drop]; omega) (by simp only [List.length_append, List.length_cons, List.length_nil, List.length_take, List.length_drop]; omega) rfl rfl rfl ?_
    intro l3
    simp only [List.set_cons_zero, List.set_cons_succ]
    rw [← hins]
    refine WL_updE (UpdE.shapeL 1 rfl) ?_
    rintro _ h3 - ⟨rfl, rfl, a3, c3, rfl⟩
    refine WL_is (X_nilCheck rfl rfl) rfl rfl rfl ?_
    refine WL_is (X_fieldAddr rfl rfl rfl (by simp only [Nat.zero_add] <;> rfl)) rfl rfl rfl ?_
    refine WL_store rfl rfl rfl (by exact idx3) rfl rfl rfl rfl rfl rfl rfl rfl rfl ?_
    (repeat (first | refine WL_nil ?_))
    refine Body_vals0 .nil rfl ?_
    refine (refEnd (rb := rb) (rv := .slice a3 (insR L (xa, xw)).length c3) (L := insR L (xa, xw)) (by exact SubR_pick 3 rfl (SubR_pick 1 rfl (SubR.none _)))).mono ?_
    rintro _ _ - ⟨rfl, rfl⟩
    rfl
  · refine W_updE (UpdE.shapePos 1 rfl (by omega)) ?_
    rintro _ h - ⟨rfl, rfl, b, rfl⟩
    (repeat (first | refine W_seq ?_))
    skip
    refine W_region rfl ?_
    (refine WL_box rfl rfl rfl rfl rfl rfl ?_; intro b_)
    (repeat (first | refine WL_nil ?_ | refine Then_normal ?_ | refine W_seq ?_))
    skip
    refine W_region rfl ?_
    refine WL_is (X_assign rfl rfl) rfl rfl rfl ?_
    (repeat (first | refine WL_nil ?_ | refine Then_normal ?_ | refine W_seq ?_ | refine W_block ?_))
    generalize b_ = bx
    refine W_loop (X := Nat) (L := fun i => ⟨[(4, .int .i64 (i : Int)), (3, .pointer (some ⟨bx, 0, none⟩)), (0, .pointer (some ⟨rb, 0, none⟩))], [], [blk bx [.int .i64 xa, .int .u64 xw] 38, blk rb [.slice (some ⟨b, 0, none⟩) L.length cap] 30, rowL encR (.slice (some ⟨b, 0, none⟩) L.length cap) 38 2 L], h⟩) (p := fun i => i ≤ L.length ∧ ∀ j (h : j < i) (h' : j < L.length), (L[j]'(h')).1 < xa) (μ := fun i => L.length - i) 0 ⟨(by repeat (first | exact SubE_nil | refine SubE_cons rfl ?_)), rfl, SubR.refl _, rfl⟩ ⟨Nat.zero_le _, fun j hj => by omega⟩ ?_
    rintro i ⟨hi, hlo⟩
    by_cases hil : i < L.length
    · by_cases hlt : L[i].1 < xa
      · (repeat (first | refine W_seq ?_))
        refine W_draw0 18 rfl rfl rfl rfl ?_
        refine RG_val rfl rfl (fun _ => rfl) (fun _ => X_move rfl rfl) ?_
        refine RG_val rfl rfl (fun _ => rfl) (fun _ => X_move rfl rfl) ?_
        refine RG_val rfl rfl (fun _ => rfl) (fun _ => X_nilCheck rfl rfl) ?_
        refine RG_val rfl rfl (fun _ => rfl) (fun _ => X_fieldAddr rfl rfl rfl (by simp only [Nat.zero_add] <;> rfl)) ?_
        refine RG_val rfl rfl (fun _ => rfl) (fun _ => X_load1 rfl rfl (by exact idx1) rfl rfl) ?_
        refine RG_val rfl rfl (fun _ => rfl) (fun _ => X_len rfl rfl rfl) ?_
        refine RG_val rfl rfl (fun _ => rfl) (fun _ => X_lss_t rfl rfl rfl (by omega)) ?_
        refine RG_val rfl rfl (fun _ => rfl) (fun _ => X_move rfl rfl) ?_
        refine RG_val rfl rfl (fun _ => rfl) (fun _ => X_move rfl rfl) ?_
        refine RG_val rfl rfl (fun _ => rfl) (fun _ => X_nilCheck rfl rfl) ?_
        refine RG_val rfl rfl (fun _ => rfl) (fun _ => X_fieldAddr rfl rfl rfl (by simp only [Nat.zero_add] <;> rfl)) ?_
        refine RG_val rfl rfl (fun _ => rfl) (fun _ => X_load1 rfl rfl (by exact idx1) rfl rfl) ?_
        refine RG_val rfl rfl (fun _ => rfl) (fun _ => X_move rfl rfl) ?_
        refine RG_val rfl rfl (fun _ => rfl) (fun _ => X_index_row rfl rfl (by exact idx2) rfl rfl rfl (by omega)) ?_
        refine RG_val rfl rfl (fun _ => rfl) (fun _ => X_fieldAddr_spot rfl rfl rfl (by simp only [Nat.zero_add] <;> rfl)) ?_
        refine RG_val rfl rfl (fun _ => rfl) (fun _ => X_load_spot rfl rfl (by exact idx2) (by rfl) rfl (by omega) rfl) ?_
        refine RG_val rfl rfl (fun _ => rfl) (fun _ => X_fieldAddr rfl rfl rfl (by simp only [Nat.zero_add] <;> rfl)) ?_
        refine RG_val rfl rfl (fun _ => rfl) (fun _ => X_load1 rfl rfl (by exact idx0) rfl rfl) ?_
        refine RG_nil ?_
        refine RG_endv rfl (fun vs => by simp only [endE, List.cons_append, List.nil_append] <;> rfl) (fun vs => rfl) ?_
        refine WL_is (X_lss_t rfl rfl rfl (by omega)) rfl rfl rfl ?_
        refine WL_is (X_pick_t rfl rfl rfl) rfl rfl rfl ?_
        (repeat (first | refine WL_nil ?_ | refine Then_normal ?_ | refine W_skip ?_ | refine W_block ?_ | refine W_true rfl ?_))
        skip
        refine W_region rfl ?_
        refine WL_is (X_move rfl rfl) rfl rfl rfl ?_
        refine WL_is (X_addW rfl rfl rfl (by exact wrap_i64_in (by omega) (by omega))) rfl rfl rfl ?_
        refine WL_is (X_assign rfl rfl) rfl rfl rfl ?_
        (repeat (first | refine WL_nil ?_ | refine Then_normal ?_ | refine inBlk_normal ?_))
        refine ⟨i + 1, ⟨(by repeat (first | exact SubE_nil | refine SubE_cons rfl ?_)), rfl, SubR.refl _, rfl⟩, ⟨hil, fun j hj hj' => ?_⟩, by omega⟩
        rcases Nat.lt_or_ge j i with h' | h'
        · exact hlo j h' hj'
        · have : j = i := by omega
          subst this; exact hlt
      · have hins := insR_at L (xa, xw) i hi (fun j hj => hlo j hj (by omega)) (fun _ => hlt)
        rw [dif_pos hil] at hins
        by_cases heq : L[i].1 = xa
        · rw [if_pos heq] at hins
          (repeat (first | refine W_seq ?_))
          refine W_draw0 18 rfl rfl rfl rfl ?_
          refine RG_val rfl rfl (fun _ => rfl) (fun _ => X_move rfl rfl) ?_
          refine RG_val rfl rfl (fun _ => rfl) (fun _ => X_move rfl rfl) ?_
          refine RG_val rfl rfl (fun _ => rfl) (fun _ => X_nilCheck rfl rfl) ?_
          refine RG_val rfl rfl (fun _ => rfl) (fun _ => X_fieldAddr rfl rfl rfl (by simp only [Nat.zero_add] <;> rfl)) ?_
          refine RG_val rfl rfl (fun _ => rfl) (fun _ => X_load1 rfl rfl (by exact idx1) rfl rfl) ?_
          refine RG_val rfl rfl (fun _ => rfl) (fun _ => X_len rfl rfl rfl) ?_
          refine RG_val rfl rfl (fun _ => rfl) (fun _ => X_lss_t rfl rfl rfl (by omega)) ?_
          refine RG_val rfl rfl (fun _ => rfl) (fun _ => X_move rfl rfl) ?_
          refine RG_val rfl rfl (fun _ => rfl) (fun _ => X_move rfl rfl) ?_
          refine RG_val rfl rfl (fun _ => rfl) (fun _ => X_nilCheck rfl rfl) ?_
          refine RG_val rfl rfl (fun _ => rfl) (fun _ => X_fieldAddr rfl rfl rfl (by simp only [Nat.zero_add] <;> rfl)) ?_
          refine RG_val rfl rfl (fun _ => rfl) (fun _ => X_load1 rfl rfl (by exact idx1) rfl rfl) ?_
          refine RG_val rfl rfl (fun _ => rfl) (fun _ => X_move rfl rfl) ?_
          refine RG_val rfl rfl (fun _ => rfl) (fun _ => X_index_row rfl rfl (by exact idx2) rfl rfl rfl (by omega)) ?_
          refine RG_val rfl rfl (fun _ => rfl) (fun _ => X_fieldAddr_spot rfl rfl rfl (by simp only [Nat.zero_add] <;> rfl)) ?_
          refine RG_val rfl rfl (fun _ => rfl) (fun _ => X_load_spot rfl rfl (by exact idx2) (by rfl) rfl (by omega) rfl) ?_
          refine RG_val rfl rfl (fun _ => rfl) (fun _ => X_fieldAddr rfl rfl rfl (by simp only [Nat.zero_add] <;> rfl)) ?_
          refine RG_val rfl rfl (fun _ => rfl) (fun _ => X_load1 rfl rfl (by exact idx0) rfl rfl) ?_
          refine RG_nil ?_
          refine RG_endv rfl (fun vs => by simp only [endE, List.cons_append, List.nil_append] <;> rfl) (fun vs => rfl) ?_
          refine WL_is (X_lss_f rfl rfl rfl (by omega)) rfl rfl rfl ?_
          refine WL_is (X_pick_t rfl rfl rfl) rfl rfl rfl ?_
          (repeat (first | refine WL_nil ?_ | refine Then_normal ?_ | refine W_seq ?_ | refine W_exit ?_ | refine Then_exit ?_ | refine inBlk_here ?_ | refine W_false rfl ?_))
          skip
          refine W_draw0 18 rfl rfl rfl rfl ?_
          refine RG_val rfl rfl (fun _ => rfl) (fun _ => X_move rfl rfl) ?_
          refine RG_val rfl rfl (fun _ => rfl) (fun _ => X_move rfl rfl) ?_
          refine RG_val rfl rfl (fun _ => rfl) (fun _ => X_nilCheck rfl rfl) ?_
          refine RG_val rfl rfl (fun _ => rfl) (fun _ => X_fieldAddr rfl rfl rfl (by simp only [Nat.zero_add] <;> rfl)) ?_
          refine RG_val rfl rfl (fun _ => rfl) (fun _ => X_load1 rfl rfl (by exact idx1) rfl rfl) ?_
          refine RG_val rfl rfl (fun _ => rfl) (fun _ => X_len rfl rfl rfl) ?_
          refine RG_val rfl rfl (fun _ => rfl) (fun _ => X_lss_t rfl rfl rfl (by omega)) ?_
          refine RG_val rfl rfl (fun _ => rfl) (fun _ => X_move rfl rfl) ?_
          refine RG_val rfl rfl (fun _ => rfl) (fun _ => X_move rfl rfl) ?_
          refine RG_val rfl rfl (fun _ => rfl) (fun _ => X_nilCheck rfl rfl) ?_
          refine RG_val rfl rfl (fun _ => rfl) (fun _ => X_fieldAddr rfl rfl rfl (by simp only [Nat.zero_add] <;> rfl)) ?_
          refine RG_val rfl rfl (fun _ => rfl) (fun _ => X_load1 rfl rfl (by exact idx1) rfl rfl) ?_
          refine RG_val rfl rfl (fun _ => rfl) (fun _ => X_move rfl rfl) ?_
          refine RG_val rfl rfl (fun _ => rfl) (fun _ => X_index_row rfl rfl (by exact idx2) rfl rfl rfl (by omega)) ?_
          refine RG_val rfl rfl (fun _ => rfl) (fun _ => X_fieldAddr_spot rfl rfl rfl (by simp only [Nat.zero_add] <;> rfl)) ?_
          refine RG_val rfl rfl (fun _ => rfl) (fun _ => X_load_spot rfl rfl (by exact idx2) (by rfl) rfl (by omega) rfl) ?_
          refine RG_val rfl rfl (fun _ => rfl) (fun _ => X_fieldAddr rfl rfl rfl (by simp only [Nat.zero_add] <;> rfl)) ?_
          refine RG_val rfl rfl (fun _ => rfl) (fun _ => X_load1 rfl rfl (by exact idx0) rfl rfl) ?_
          refine RG_nil ?_
          refine RG_endv rfl (fun vs => by simp only [endE, List.cons_append, List.nil_append] <;> rfl) (fun vs => rfl) ?_
          refine WL_is (X_eql_t rfl rfl rfl (by omega)) rfl rfl rfl ?_
          refine WL_is (X_pick_t rfl rfl rfl) rfl rfl rfl ?_
          (repeat (first | refine WL_nil ?_ | refine Then_normal ?_ | refine W_seq ?_ | refine W_true rfl ?_))
          skip
          refine W_draw0 7 rfl rfl rfl rfl ?_
          refine RG_val rfl rfl (fun _ => rfl) (fun _ => X_move rfl rfl) ?_
          refine RG_val rfl rfl (fun _ => rfl) (fun _ => X_nilCheck rfl rfl) ?_
          refine RG_val rfl rfl (fun _ => rfl) (fun _ => X_fieldAddr rfl rfl rfl (by simp only [Nat.zero_add] <;> rfl)) ?_
          refine RG_val rfl rfl (fun _ => rfl) (fun _ => X_load1 rfl rfl (by exact idx1) rfl rfl) ?_
          refine RG_val rfl rfl (fun _ => rfl) (fun _ => X_move rfl rfl) ?_
          refine RG_val rfl rfl (fun _ => rfl) (fun _ => X_fieldAddr rfl rfl rfl (by simp only [Nat.zero_add] <;> rfl)) ?_
          refine RG_val rfl rfl (fun _ => rfl) (fun _ => X_load1 rfl rfl (by exact idx0) rfl rfl) ?_
          refine RG_nil ?_
          refine RG_endv rfl (fun vs => by simp only [endE, List.cons_append, List.nil_append] <;> rfl) (fun vs => rfl) ?_
          refine WL_is (X_index_row rfl rfl (by exact idx2) rfl rfl rfl (by omega)) rfl rfl rfl ?_
          refine WL_is (X_fieldAddr_spot rfl rfl rfl (by simp only [Nat.zero_add] <;> rfl)) rfl rfl rfl ?_
          refine WL_store_spot rfl rfl rfl (by exact idx2) (by rfl) rfl rfl rfl rfl rfl (by omega) rfl rfl rfl rfl ?_
          (repeat (first | refine WL_nil ?_ | refine Then_normal ?_ | refine W_ret ?_ | refine Then_ret ?_))
          refine Body_vals .nil rfl ?_
          refine (refEnd (rb := rb) (rv := .slice (some ⟨b, 0, none⟩) L.length cap) (L := insR L (xa, xw)) (by rw [hins]; exact SubR_pick 1 rfl (SubR_pick 1 rfl (SubR.none _)))).mono ?_
          rintro _ _ - ⟨rfl, rfl⟩
          rfl
        · rw [if_neg heq] at hins
          (repeat (first | refine W_seq ?_))
          refine W_draw0 18 rfl rfl rfl rfl ?_
          refine RG_val rfl rfl (fun _ => rfl) (fun _ => X_move rfl rfl) ?_
          refine RG_val rfl rfl (fun _ => rfl) (fun _ => X_move rfl rfl) ?_
          refine RG_val rfl rfl (fun _ => rfl) (fun _ => X_nilCheck rfl rfl) ?_
          refine RG_val rfl rfl (fun _ => rfl) (fun _ => X_fieldAddr rfl rfl rfl (by simp only [Nat.zero_add] <;> rfl)) ?_
          refine RG_val rfl rfl (fun _ => rfl) (fun _ => X_load1 rfl rfl (by exact idx1) rfl rfl) ?_
          refine RG_val rfl rfl (fun _ => rfl) (fun _ => X_len rfl rfl rfl) ?_
          refine RG_val rfl rfl (fun _ => rfl) (fun _ => X_lss_t rfl rfl rfl (by omega)) ?_
          refine RG_val rfl rfl (fun _ => rfl) (fun _ => X_move rfl rfl) ?_
          refine RG_val rfl rfl (fun _ => rfl) (fun _ => X_move rfl rfl) ?_
          refine RG_val rfl rfl (fun _ => rfl) (fun _ => X_nilCheck rfl rfl) ?_
          refine RG_val rfl rfl (fun _ => rfl) (fun _ => X_fieldAddr rfl rfl rfl (by simp only [Nat.zero_add] <;> rfl)) ?_
          refine RG_val rfl rfl (fun _ => rfl) (fun _ => X_load1 rfl rfl (by exact idx1) rfl rfl) ?_
          refine RG_val rfl rfl (fun _ => rfl) (fun _ => X_move rfl rfl) ?_
          refine RG_val rfl rfl (fun _ => rfl) (fun _ => X_index_row rfl rfl (by exact idx2) rfl rfl rfl (by omega)) ?_
          refine RG_val rfl rfl (fun _ => rfl) (fun _ => X_fieldAddr_spot rfl rfl rfl (by simp only [Nat.zero_add] <;> rfl)) ?_
          refine RG_val rfl rfl (fun _ => rfl) (fun _ => X_load_spot rfl rfl (by exact idx2) (by rfl) rfl (by omega) rfl) ?_
          refine RG_val rfl rfl (fun _ => rfl) (fun _ => X_fieldAddr rfl rfl rfl (by simp only [Nat.zero_add] <;> rfl)) ?_
          refine RG_val rfl rfl (fun _ => rfl) (fun _ => X_load1 rfl rfl (by exact idx0) rfl rfl) ?_
          refine RG_nil ?_
          refine RG_endv rfl (fun vs => by simp only [endE, List.cons_append, List.nil_append] <;> rfl) (fun vs => rfl) ?_
          refine WL_is (X_lss_f rfl rfl rfl (by omega)) rfl rfl rfl ?_
          refine WL_is (X_pick_t rfl rfl rfl) rfl rfl rfl ?_
          (repeat (first | refine WL_nil ?_ | refine Then_normal ?_ | refine W_seq ?_ | refine W_exit ?_ | refine Then_exit ?_ | refine inBlk_here ?_ | refine W_false rfl ?_))
          skip
          refine W_draw0 18 rfl rfl rfl rfl ?_
          refine RG_val rfl rfl (fun _ => rfl) (fun _ => X_move rfl rfl) ?_
          refine RG_val rfl rfl (fun _ => rfl) (fun _ => X_move rfl rfl) ?_
          refine RG_val rfl rfl (fun _ => rfl) (fun _ => X_nilCheck rfl rfl) ?_
          refine RG_val rfl rfl (fun _ => rfl) (fun _ => X_fieldAddr rfl rfl rfl (by simp only [Nat.zero_add] <;> rfl)) ?_
          refine RG_val rfl rfl (fun _ => rfl) (fun _ => X_load1 rfl rfl (by exact idx1) rfl rfl) ?_
          refine RG_val rfl rfl (fun _ => rfl) (fun _ => X_len rfl rfl rfl) ?_
          refine RG_val rfl rfl (fun _ => rfl) (fun _ => X_lss_t rfl rfl rfl (by omega)) ?_
          refine RG_val rfl rfl (fun _ => rfl) (fun _ => X_move rfl rfl) ?_
          refine RG_val rfl rfl (fun _ => rfl) (fun _ => X_move rfl rfl) ?_
          refine RG_val rfl rfl (fun _ => rfl) (fun _ => X_nilCheck rfl rfl) ?_
          refine RG_val rfl rfl (fun _ => rfl) (fun _ => X_fieldAddr rfl rfl rfl (by simp only [Nat.zero_add] <;> rfl)) ?_
          refine RG_val rfl rfl (fun _ => rfl) (fun _ => X_load1 rfl rfl (by exact idx1) rfl rfl) ?_
          refine RG_val rfl rfl (fun _ => rfl) (fun _ => X_move rfl rfl) ?_
          refine RG_val rfl rfl (fun _ => rfl) (fun _ => X_index_row rfl rfl (by exact idx2) rfl rfl rfl (by omega)) ?_
          refine RG_val rfl rfl (fun _ => rfl) (fun _ => X_fieldAddr_spot rfl rfl rfl (by simp only [Nat.zero_add] <;> rfl)) ?_
          refine RG_val rfl rfl (fun _ => rfl) (fun _ => X_load_spot rfl rfl (by exact idx2) (by rfl) rfl (by omega) rfl) ?_
          refine RG_val rfl rfl (fun _ => rfl) (fun _ => X_fieldAddr rfl rfl rfl (by simp only [Nat.zero_add] <;> rfl)) ?_
          refine RG_val rfl rfl (fun _ => rfl) (fun _ => X_load1 rfl rfl (by exact idx0) rfl rfl) ?_
          refine RG_nil ?_
          refine RG_endv rfl (fun vs => by simp only [endE, List.cons_append, List.nil_append] <;> rfl) (fun vs => rfl) ?_
          refine WL_is (X_eql_f rfl rfl rfl (by omega)) rfl rfl rfl ?_
          refine WL_is (X_pick_t rfl rfl rfl) rfl rfl rfl ?_
          (repeat (first | refine WL_nil ?_ | refine Then_normal ?_ | refine W_seq ?_ | refine W_skip ?_ | refine W_false rfl ?_))
          skip
          refine W_region rfl ?_
          refine WL_updE (UpdE.row (enc := encR) 2 rfl (lenR _)) ?_
          rintro _ h2 hl2 ⟨rfl, hsl⟩
          simp only [List.eraseIdx_cons_succ, List.eraseIdx_cons_zero]
          have hcap := hsl.capLe
          refine WL_is (X_assign rfl rfl) rfl rfl rfl ?_
          (repeat (first | refine WL_nil ?_ | refine Then_normal ?_ | refine W_seq ?_))
          skip
          refine W_region rfl ?_
          refine WL_is (X_move rfl rfl) rfl rfl rfl ?_
          refine WL_is (X_move rfl rfl) rfl rfl rfl ?_
          refine WL_is (X_nilCheck rfl rfl) rfl rfl rfl ?_
          refine WL_is (X_fieldAddr rfl rfl rfl (by simp only [Nat.zero_add] <;> rfl)) rfl rfl rfl ?_
          refine WL_is (X_load1 rfl rfl (by exact idx1) rfl rfl) rfl rfl rfl ?_
          refine WL_is (X_move rfl rfl) rfl rfl rfl ?_
          refine WL_is (X_sliceHiG (sz := 2) (j := i) rfl rfl rfl rfl rfl (by omega)) rfl rfl rfl ?_
          refine WL_append_nil (enc := encR) (L' := L.take i) rfl rfl rfl elemR rfl (Src.sl (hsl.upto hi)) (flatR _) (by simp only [List.length_take]; omega) (by simp only [List.length_take]; omega) rfl rfl rfl ?_
          intro l1
          refine WL_is (X_assign rfl rfl) rfl rfl rfl ?_
          (repeat (first | refine WL_nil ?_ | refine Then_normal ?_ | refine W_seq ?_))
          skip
          refine W_region rfl ?_
          refine WL_is (X_move rfl rfl) rfl rfl rfl ?_
          refine WL_is (X_loadA rfl rfl (by exact idx1) rfl rfl rfl) rfl rfl rfl ?_
          refine WL_buildSlice rfl rfl rfl rfl rfl rfl rfl rfl rfl rfl rfl rfl rfl ?_
          intro ub
          refine WL_append (enc := encR) (L' := [(xa, xw)]) (i := 1) rfl rfl rfl elemR rfl rfl (Src.own (i := 0) (c := encR (xa, xw)) rfl rfl) (flatR _) (by simp only [List.length_cons, List.length_nil, List.length_take]; omega) (by simp only [List.length_cons, List.length_nil, List.length_take]; omega) rfl rfl rfl ?_
          intro l2
          simp only [List.set_cons_zero, List.set_cons_succ]
          refine WL_is (X_assign rfl rfl) rfl rfl rfl ?_
          (repeat (first | refine WL_nil ?_ | refine Then_normal ?_))
          skip
          refine W_region rfl ?_
          refine WL_is (X_move rfl rfl) rfl rfl rfl ?_
          refine WL_is (X_move rfl rfl) rfl rfl rfl ?_
          refine WL_is (X_move rfl rfl) rfl rfl rfl ?_
          refine WL_is (X_nilCheck rfl rfl) rfl rfl rfl ?_
          refine WL_is (X_fieldAddr rfl rfl rfl (by simp only [Nat.zero_add] <;> rfl)) rfl rfl rfl ?_
          refine WL_is (X_load1 rfl rfl (by exact idx3) rfl rfl) rfl rfl rfl ?_
          refine WL_is (X_move rfl rfl) rfl rfl rfl ?_
          refine WL_is (X_sliceLoG (sz := 2) (j := i) rfl rfl rfl rfl rfl (by omega)) rfl rfl rfl ?_
          refine WL_append (enc := encR) (L' := L.drop i) (i := 1) rfl rfl rfl elemR rfl rfl (Src.sl (hsl.from hi)) (flatR _) (by simp only [List.length_append, List.length_cons, List.length_nil, List.length_take, List.length_drop]; omega) (by simp only [List.length_append, List.length_cons, List.length_nil, List.length_take, List.length_drop]; omega) rfl rfl rfl ?_
          intro l3
          simp only [List.set_cons_zero, List.set_cons_succ]
          rw [← hins]
          refine WL_updE (UpdE.shapeL 1 rfl) ?_
          rintro _ h3 - ⟨rfl, rfl, a3, c3, rfl⟩
          refine WL_is (X_nilCheck rfl rfl) rfl rfl rfl ?_
          refine WL_is (X_fieldAddr rfl rfl rfl (by simp only [Nat.zero_add] <;> rfl)) rfl rfl rfl ?_
          refine WL_store rfl rfl rfl (by exact idx3) rfl rfl rfl rfl rfl rfl rfl rfl rfl ?_
          (repeat (first | refine WL_nil ?_))
          refine Body_vals0 .nil rfl ?_
          refine (refEnd (rb := rb) (rv := .slice a3 (insR L (xa, xw)).length c3) (L := insR L (xa, xw)) (by exact SubR_pick 3 rfl (SubR_pick 1 rfl (SubR.none _)))).mono ?_
          rintro _ _ - ⟨rfl, rfl⟩
          rfl
    · have hins := insR_at L (xa, xw) i hi (fun j hj => hlo j hj (by omega)) (fun h => absurd h hil)
      rw [dif_neg hil] at hins
      have hie : i = L.length := by omega
      have hins : insR L (xa, xw) = L.take i ++ [(xa, xw)] ++ L.drop i := by rw [hins, hie, List.take_length, List.drop_length, List.append_nil]
      (repeat (first | refine W_seq ?_))
      refine W_draw0 18 rfl rfl rfl rfl ?_
      refine RG_val rfl rfl (fun _ => rfl) (fun _ => X_move rfl rfl) ?_
      refine RG_val rfl rfl (fun _ => rfl) (fun _ => X_move rfl rfl) ?_
      refine RG_val rfl rfl (fun _ => rfl) (fun _ => X_nilCheck rfl rfl) ?_
      refine RG_val rfl rfl (fun _ => rfl) (fun _ => X_fieldAddr rfl rfl rfl (by simp only [Nat.zero_add] <;> rfl)) ?_
      refine RG_val rfl rfl (fun _ => rfl) (fun _ => X_load1 rfl rfl (by exact idx1) rfl rfl) ?_
      refine RG_val rfl rfl (fun _ => rfl) (fun _ => X_len rfl rfl rfl) ?_
      refine RG_val rfl rfl (fun _ => rfl) (fun _ => X_lss_f rfl rfl rfl (by omega)) ?_
      refine RG_val rfl rfl (fun _ => rfl) (fun _ => X_move rfl rfl) ?_
      refine RG_off rfl rfl (fun _ => rfl) ?_
      refine RG_off rfl rfl (fun _ => rfl) ?_
      refine RG_off rfl rfl (fun _ => rfl) ?_
      refine RG_off rfl rfl (fun _ => rfl) ?_
      refine RG_off rfl rfl (fun _ => rfl) ?_
      refine RG_off rfl rfl (fun _ => rfl) ?_
      refine RG_off rfl rfl (fun _ => rfl) ?_
      refine RG_off rfl rfl (fun _ => rfl) ?_
      refine RG_off rfl rfl (fun _ => rfl) ?_
      refine RG_off rfl rfl (fun _ => rfl) ?_
      refine RG_nil ?_
      refine RG_endv rfl (fun vs => by simp only [endE, List.cons_append, List.nil_append] <;> rfl) (fun vs => rfl) ?_
      refine WL_off rfl rfl rfl ?_
      refine WL_is (X_pick_f rfl rfl rfl) rfl rfl rfl ?_
      (repeat (first | refine WL_nil ?_ | refine Then_normal ?_ | refine W_seq ?_ | refine W_exit ?_ | refine Then_exit ?_ | refine inBlk_here ?_ | refine W_false rfl ?_))
      skip
      refine W_draw0 18 rfl rfl rfl rfl ?_
      refine RG_val rfl rfl (fun _ => rfl) (fun _ => X_move rfl rfl) ?_
      refine RG_val rfl rfl (fun _ => rfl) (fun _ => X_move rfl rfl) ?_
      refine RG_val rfl rfl (fun _ => rfl) (fun _ => X_nilCheck rfl rfl) ?_
      refine RG_val rfl rfl (fun _ => rfl) (fun _ => X_fieldAddr rfl rfl rfl (by simp only [Nat.zero_add] <;> rfl)) ?_
      refine RG_val rfl rfl (fun _ => rfl) (fun _ => X_load1 rfl rfl (by exact idx1) rfl rfl) ?_
      refine RG_val rfl rfl (fun _ => rfl) (fun _ => X_len rfl rfl rfl) ?_
      refine RG_val rfl rfl (fun _ => rfl) (fun _ => X_lss_f rfl rfl rfl (by omega)) ?_
      refine RG_val rfl rfl (fun _ => rfl) (fun _ => X_move rfl rfl) ?_
      refine RG_off rfl rfl (fun _ => rfl) ?_
      refine RG_off rfl rfl (fun _ => rfl) ?_
      refine RG_off rfl rfl (fun _ => rfl) ?_
      refine RG_off rfl rfl (fun _ => rfl) ?_
      refine RG_off rfl rfl (fun _ => rfl) ?_
      refine RG_off rfl rfl (fun _ => rfl) ?_
      refine RG_off rfl rfl (fun _ => rfl) ?_
      refine RG_off rfl rfl (fun _ => rfl) ?_
      refine RG_off rfl rfl (fun _ => rfl) ?_
      refine RG_off rfl rfl (fun _ => rfl) ?_
      refine RG_nil ?_
      refine RG_endv rfl (fun vs => by simp only [endE, List.cons_append, List.nil_append] <;> rfl) (fun vs => rfl) ?_
      refine WL_off rfl rfl rfl ?_
      refine WL_is (X_pick_f rfl rfl rfl) rfl rfl rfl ?_
      (repeat (first | refine WL_nil ?_ | refine Then_normal ?_ | refine W_seq ?_ | refine W_skip ?_ | refine W_false rfl ?_))
      skip
      refine W_region rfl ?_
      refine WL_updE (UpdE.row (enc := encR) 2 rfl (lenR _)) ?_
      rintro _ h2 hl2 ⟨rfl, hsl⟩
      simp only [List.eraseIdx_cons_succ, List.eraseIdx_cons_zero]
      have hcap := hsl.capLe
      refine WL_is (X_assign rfl rfl) rfl rfl rfl ?_
      (repeat (first | refine WL_nil ?_ | refine Then_normal ?_ | refine W_seq ?_))
      skip
      refine W_region rfl ?_
      refine WL_is (X_move rfl rfl) rfl rfl rfl ?_
      refine WL_is (X_move rfl rfl) rfl rfl rfl ?_
      refine WL_is (X_nilCheck rfl rfl) rfl rfl rfl ?_
      refine WL_is (X_fieldAddr rfl rfl rfl (by simp only [Nat.zero_add] <;> rfl)) rfl rfl rfl ?_
      refine WL_is (X_load1 rfl rfl (by exact idx1) rfl rfl) rfl rfl rfl ?_
      refine WL_is (X_move rfl rfl) rfl rfl rfl ?_
      refine WL_is (X_sliceHiG (sz := 2) (j := i) rfl rfl rfl rfl rfl (by omega)) rfl rfl rfl ?_
      refine WL_append_nil (enc := encR) (L' := L.take i) rfl rfl rfl elemR rfl (Src.sl (hsl.upto hi)) (flatR _) (by simp only [List.length_take]; omega) (by simp only [List.length_take]; omega) rfl rfl rfl ?_
      intro l1
      refine WL_is (X_assign rfl rfl) rfl rfl rfl ?_
      (repeat (first | refine WL_nil ?_ | refine Then_normal ?_ | refine W_seq ?_))
      skip
      refine W_region rfl ?_
      refine WL_is (X_move rfl rfl) rfl rfl rfl ?_
      refine WL_is (X_loadA rfl rfl (by exact idx1) rfl rfl rfl) rfl rfl rfl ?_
      refine WL_buildSlice rfl rfl rfl rfl rfl rfl rfl rfl rfl rfl rfl rfl rfl ?_
      intro ub
      refine WL_append (enc := encR) (L' := [(xa, xw)]) (i := 1) rfl rfl rfl elemR rfl rfl (Src.own (i := 0) (c := encR (xa, xw)) rfl rfl) (flatR _) (by simp only [List.length_cons, List.length_nil, List.length_take]; omega) (by simp only [List.length_cons, List.length_nil, List.length_take]; omega) rfl rfl rfl ?_
      intro l2
      simp only [List.set_cons_zero, List.set_cons_succ]
      refine WL_is (X_assign rfl rfl) rfl rfl rfl ?_
      (repeat (first | refine WL_nil ?_ | refine Then_normal ?_))
      skip
      refine W_region rfl ?_
      refine WL_is (X_move rfl rfl) rfl rfl rfl ?_
      refine WL_is (X_move rfl rfl) rfl rfl rfl ?_
      refine WL_is (X_move rfl rfl) rfl rfl rfl ?_
      refine WL_is (X_nilCheck rfl rfl) rfl rfl rfl ?_
      refine WL_is (X_fieldAddr rfl rfl rfl (by simp only [Nat.zero_add] <;> rfl)) rfl rfl rfl ?_
      refine WL_is (X_load1 rfl rfl (by exact idx3) rfl rfl) rfl rfl rfl ?_
      refine WL_is (X_move rfl rfl) rfl rfl rfl ?_
      refine WL_is (X_sliceLoG (sz := 2) (j := i) rfl rfl rfl rfl rfl (by omega)) rfl rfl rfl ?_
      refine WL_append (enc := encR) (L' := L.drop i) (i := 1) rfl rfl rfl elemR rfl rfl (Src.sl (hsl.from hi)) (flatR _) (by simp only [List.length_append, List.length_cons, List.length_nil, List.length_take, List.length_drop]; omega) (by simp only [List.length_append, List.length_cons, List.length_nil, List.length_take, List.length_drop]; omega) rfl rfl rfl ?_
      intro l3
      simp only [List.set_cons_zero, List.set_cons_succ]
      rw [← hins]
      refine WL_updE (UpdE.shapeL 1 rfl) ?_
      rintro _ h3 - ⟨rfl, rfl, a3, c3, rfl⟩
      refine WL_is (X_nilCheck rfl rfl) rfl rfl rfl ?_
      refine WL_is (X_fieldAddr rfl rfl rfl (by simp only [Nat.zero_add] <;> rfl)) rfl rfl rfl ?_
      refine WL_store rfl rfl rfl (by exact idx3) rfl rfl rfl rfl rfl rfl rfl rfl rfl ?_
      (repeat (first | refine WL_nil ?_))
      refine Body_vals0 .nil rfl ?_
      refine (refEnd (rb := rb) (rv := .slice a3 (insR L (xa, xw)).length c3) (L := insR L (xa, xw)) (by exact SubR_pick 3 rfl (SubR_pick 1 rfl (SubR.none _)))).mono ?_
      rintro _ _ - ⟨rfl, rfl⟩
      rfl
end Go.Proofs.Ytmohiefnoflndaa
