/- Open files: the law on numbers that share an open file. -/
import Derived.Test.YtmicilnmphkpmaaDescP
import Derived.Test.YtmicilnmphkpmaaEngD
namespace Go.Proofs.Ytmicilnmphkpmaa
open Go Go.Par PH
theorem atF_nat {fds : List Nat} {q : Nat} (hl : fds.length = 8) (hq : q < fds.length) : atF fds (q : Int) = fds[q] := by
  unfold atF
  rw [if_pos (by omega)]; simp [hq]
theorem SInv.dup {s : DS} {F : List FileD} {la : Nat} (H : SInv s F la) {q : Nat} (hq : q < s.fds.length) (h0 : s.fds[q] ≠ 0) (hm : least s.fds < 8) :
    s.dup q = ⟨s.all, s.fds.set (least s.fds) s.fds[q]⟩ ∧ SInv (s.dup q) F la := by
  have hml : least s.fds < s.fds.length := by rw [H.ok.len]; exact hm
  have he : s.dup q = ⟨s.all, s.fds.set (least s.fds) s.fds[q]⟩ := by
    unfold DS.dup
    rw [atF_nat H.ok.len hq, if_neg (not_or.2 ⟨h0, not_not_intro hm⟩)]
  refine ⟨he, H.ok.dup _, H.len, ?_, ?_⟩
  · rw [he]; exact H.files
  · rw [he]
    have := cnt_dup (n := s.all.length) hml (least_lt hml) (List.getElem_mem hq)
    rw [this]; exact H.cnt
theorem SInv.close {s : DS} {F : List FileD} {la : Nat} (H : SInv s F la) {q : Nat} (hq : q < s.fds.length) (h0 : s.fds[q] ≠ 0) :
    s.close q = ⟨s.all, s.fds.set q 0⟩ ∧ SInv (s.close q) F (la + (if s.last q = true then 1 else 0)) := by
  have ha := atF_nat H.ok.len hq
  have he : s.close q = ⟨s.all, s.fds.set q 0⟩ := by
    unfold DS.close
    rw [ha, if_neg h0]; simp
  refine ⟨he, H.ok.close _, H.len, ?_, ?_⟩
  · rw [he]; exact H.files
  · rw [he]
    have hc := cnt_close (n := s.all.length) hq h0 H.ok.le
    have hH := H.cnt
    have hl : s.last q = !decide (s.fds[q] ∈ s.fds.set q 0) := by
      unfold DS.last
      rw [ha, if_neg h0]; simp
    rw [hl]
    by_cases hm : s.fds[q] ∈ s.fds.set q 0
    · rw [if_pos hm] at hc; simp only [hm, decide_true, Bool.not_true, Bool.false_eq_true, if_false]; omega
    · rw [if_neg hm] at hc; simp only [hm, decide_false, Bool.not_false, if_true]; omega
theorem SInv.file {s : DS} {F : List FileD} {la : Nat} (H : SInv s F la) {q : Nat} (hq : q < s.fds.length) (h0 : s.fds[q] ≠ 0) (hF : s.fds[q] < F.length) : s.file q = F[s.fds[q]] := by
  obtain ⟨k, hk⟩ : ∃ k, s.fds[q] = k + 1 := ⟨s.fds[q] - 1, by omega⟩
  have hkn : k < s.all.length := by have := H.ok.le _ (List.getElem_mem hq); omega
  have hFk := H.files k hkn (by omega)
  unfold DS.file
  rw [atF_nat H.ok.len hq, if_neg h0]
  simp only [hk, Nat.add_sub_cancel, List.getElem?_eq_getElem hkn, Option.getD_some]
  exact hFk.symm
def zer : List Value := (List.replicate 301 zeroF).flatMap encF
theorem zer_len : zer.length = 301 * 6 := by unfold zer; rw [flat_len _ (lenF _), List.length_replicate]
def F0 : List FileD := List.replicate 301 zeroF
theorem F0_len : F0.length = 301 := List.length_replicate
theorem row_zer (v : Value) (e : TypeId) : Par.row v e 6 301 zer = rowL encF v e 6 F0 := by unfold rowL zer; rw [F0_len]; rfl
set_option maxRecDepth 100000 in
theorem zero_files : zeOf Try.prog 49 = some (.agg zer.toArray) := by kernel_rfl
attribute [irreducible] zer F0
theorem int_set {fds : List Nat} (i k : Nat) : (fds.map intv).set i (.int .i64 (k : Int)) = (fds.set i k).map intv := by rw [List.map_set]; rfl
structure QX where
  k : Nat
  s : DS
  F : List FileD
  la : Nat
  h : PH
attribute [local irreducible] W WL Does Exec Body Then inBlk RG WR row obj pblk
set_option maxHeartbeats 4000000 in
theorem shares_law (h : PH) (l : List StepD) (v : Value) (hv : Sl encS 9 h v l) : Does Try.prog 4 [v] [] h (Ret fun r _ _ => r = .bool true) := by
  have al := alive_fn h
  obtain ⟨a, cap, rfl⟩ := hv.shape
  refine Does_of_W Try.func4 rfl (n := 215) rfl rfl (by simp only [argE] <;> rfl) ?_
  by_cases hbig : 300 < l.length
  · (repeat (first | refine W_seq ?_))
    skip
    refine W_region rfl ?_
    refine WL_is (X_assign rfl rfl) rfl rfl rfl ?_
    (repeat (first | refine WL_nil ?_ | refine Then_normal ?_ | refine W_seq ?_))
    skip
    refine W_region rfl ?_
    refine WL_is (X_move rfl rfl) rfl rfl rfl ?_
    refine WL_is (X_len_sl rfl rfl rfl (by assumption)) rfl rfl rfl ?_
    refine WL_is (X_gtr_t rfl rfl rfl (by omega)) rfl rfl rfl ?_
    (repeat (first | refine WL_nil ?_ | refine Then_normal ?_ | refine W_seq ?_ | refine W_true rfl ?_))
    skip
    refine W_region rfl ?_
    refine WL_is (X_callv rfl rfl rfl Try.func7 rfl (by assumption)) rfl rfl rfl ?_
    refine WL_is (X_assign rfl rfl) rfl rfl rfl ?_
    (repeat (first | refine WL_nil ?_ | refine Then_normal ?_ | refine W_ret ?_ | refine Then_ret ?_))
    refine Body_end rfl rfl rfl (SubR.none _) ?_
    rfl
  · (repeat (first | refine W_seq ?_))
    skip
    refine W_region rfl ?_
    refine WL_is (X_assign rfl rfl) rfl rfl rfl ?_
    (repeat (first | refine WL_nil ?_ | refine Then_normal ?_ | refine W_seq ?_))
    skip
    refine W_region rfl ?_
    refine WL_is (X_move rfl rfl) rfl rfl rfl ?_
    refine WL_is (X_len_sl rfl rfl rfl (by assumption)) rfl rfl rfl ?_
    refine WL_is (X_gtr_f rfl rfl rfl (by omega)) rfl rfl rfl ?_
    (repeat (first | refine WL_nil ?_ | refine Then_normal ?_ | refine W_seq ?_ | refine W_skip ?_ | refine W_false rfl ?_))
    skip
    refine W_region rfl ?_
    refine WL_call rfl rfl rfl Try.func8 rfl rfl rfl rfl (new_fn h) ?_
    rintro r _ h1 hl1 ⟨tb, rfl, rfl⟩
    simp only [List.cons_append, List.nil_append]
    refine WL_is (X_assign rfl rfl) rfl rfl rfl ?_
    (repeat (first | refine WL_nil ?_ | refine Then_normal ?_ | refine W_seq ?_))
    skip
    refine W_region rfl ?_
    refine WL_is (X_move rfl rfl) rfl rfl rfl ?_
    refine WL_is (X_eqPn_f rfl rfl rfl rfl) rfl rfl rfl ?_
    (repeat (first | refine WL_nil ?_ | refine Then_normal ?_ | refine W_seq ?_ | refine W_skip ?_ | refine W_false rfl ?_))
    skip
    refine W_region rfl ?_
    refine WL_is (X_assign rfl rfl) rfl rfl rfl ?_
    refine WL_is (X_assign rfl rfl) rfl rfl rfl ?_
    (repeat (first | refine WL_nil ?_ | refine Then_normal ?_ | refine W_seq ?_))
    skip
    refine W_region rfl ?_
    (refine WL_alloc rfl rfl rfl rfl rfl rfl ?_; intro b_)
    (repeat (first | refine WL_nil ?_ | refine Then_normal ?_ | refine W_seq ?_))
    generalize b_ = wb
    refine W_region rfl ?_
    refine WL_allocV rfl zero_files (vs := zer) rfl rfl rfl rfl ?_
    intro fb
    refine WL_upd (Upd.blkrow (cap := 301) (m := 301) (sz := 6) (xs := zer) 0 rfl (Nat.le_refl _) zer_len (by rw [← zer_len, List.take_length])) ?_
    simp only [List.set_cons_zero, row_zer]
    (repeat (first | refine WL_nil ?_ | refine Then_normal ?_ | refine W_seq ?_))
    skip
    refine W_region rfl ?_
    refine WL_is (X_assign rfl rfl) rfl rfl rfl ?_
    (repeat (first | refine WL_nil ?_ | refine Then_normal ?_ | refine W_block ?_))
    have hv1 := hv.mono hl1
    refine W_loop (X := QX) (L := fun x => ⟨[(8, .int .i64 (x.k : Int)), (0, .slice a l.length cap), (3, .pointer (some ⟨tb, 0, none⟩)), (4, .int .i64 (x.s.all.length : Int)), (5, .int .i64 (x.la : Int)), (6, .pointer (some ⟨wb, 0, none⟩)), (7, .pointer (some ⟨fb, 0, none⟩))], [],
        [rowL encF (.slice (some ⟨fb, 0, none⟩) 301 301) 49 6 x.F, blk wb (x.s.fds.map intv) 28, tabR tb x.s], x.h⟩)
      (p := fun x => x.k ≤ l.length ∧ SInv x.s x.F x.la ∧ x.s.all.length ≤ x.k ∧ le h1 x.h) (μ := fun x => l.length - x.k) ⟨0, s00, F0, 0, h1⟩ ⟨(by repeat (first | exact SubE_nil | refine SubE_cons rfl ?_)), rfl, SubR.refl _, rfl⟩ ⟨Nat.zero_le _, ?_, Nat.le_refl _, le.refl _⟩ ?_
    · exact ⟨⟨rfl, (by decide : ∀ k ∈ s00.fds, k ≤ s00.all.length)⟩, F0_len, fun i hi => by simp [s00] at hi, rfl⟩
    · rintro ⟨k, s, F, la, h2⟩ ⟨hk, hs, hn, hl2⟩
      dsimp only at hk hs hn hl2 ⊢
      have hv2 := hv1.mono hl2
      by_cases hlt : k < l.length
      · (repeat (first | refine W_seq ?_))
        refine W_region rfl ?_
        refine WL_is (X_move rfl rfl) rfl rfl rfl ?_
        refine WL_is (X_move rfl rfl) rfl rfl rfl ?_
        refine WL_is (X_len_sl rfl rfl rfl (by assumption)) rfl rfl rfl ?_
        refine WL_is (X_lss_t rfl rfl rfl (by omega)) rfl rfl rfl ?_
        (repeat (first | refine WL_nil ?_ | refine Then_normal ?_ | refine W_seq ?_ | refine W_skip ?_ | refine W_block ?_ | refine W_true rfl ?_))
        skip
        refine W_region rfl ?_
        refine WL_is (X_move rfl rfl) rfl rfl rfl ?_
        refine WL_is (X_move rfl rfl) rfl rfl rfl ?_
        (refine WL_index_slN rfl rfl rfl rfl rfl (by assumption) (by omega) rfl rfl rfl ?_; intro p_ hp_)
        refine WL_is (X_loadA_at rfl rfl (by assumption) rfl rfl rfl) rfl rfl rfl ?_
        (refine WL_alloc rfl rfl rfl rfl rfl rfl ?_; intro b_)
        refine WL_store rfl rfl rfl (by exact idx0) rfl rfl rfl rfl rfl rfl rfl rfl rfl ?_
        (repeat (first | refine WL_nil ?_ | refine Then_normal ?_ | refine W_seq ?_))
        generalize b_ = xb
        skip
        refine W_region rfl ?_
        refine WL_is (X_fieldAddr rfl rfl rfl (by simp only [Nat.zero_add] <;> rfl)) rfl rfl rfl ?_
        refine WL_is (X_load1 rfl rfl (by exact idx0) rfl rfl) rfl rfl rfl ?_
        refine WL_is (X_conv rfl rfl rfl rfl) rfl rfl rfl ?_
        rw [IntKind.wrap_u64]
        refine WL_is (X_rem rfl rfl rfl (by omega) (by omega)) rfl rfl rfl ?_
        refine WL_is (X_convW rfl rfl rfl rfl (by exact wrap_i64_in (by omega) (by omega))) rfl rfl rfl ?_
        obtain ⟨q, hq8, hq⟩ : ∃ q : Nat, q < 8 ∧ l[k].fd % 18446744073709551616 % 8 = (q : Int) := ⟨(l[k].fd % 18446744073709551616 % 8).toNat, by omega, by omega⟩
        rw [hq]
        have hlen8 := hs.ok.len
        have hql : q < s.fds.length := by omega
        have hF301 := hs.len
        have hcn := hs.cnt
        refine WL_is (X_assign rfl rfl) rfl rfl rfl ?_
        (repeat (first | refine WL_nil ?_ | refine Then_normal ?_ | refine W_seq ?_))
        skip
        refine W_region rfl ?_
        refine WL_is (X_fieldAddr rfl rfl rfl (by simp only [Nat.zero_add] <;> rfl)) rfl rfl rfl ?_
        refine WL_is (X_load1 rfl rfl (by exact idx0) rfl rfl) rfl rfl rfl ?_
        (repeat (first | refine WL_nil ?_ | refine Then_normal ?_))
        refine W_cutT (X := QX) (L := fun x => ⟨[(8, .int .i64 (k : Int)), (0, .slice a l.length cap), (3, .pointer (some ⟨tb, 0, none⟩)), (4, .int .i64 (x.s.all.length : Int)), (5, .int .i64 (x.la : Int)), (6, .pointer (some ⟨wb, 0, none⟩)), (7, .pointer (some ⟨fb, 0, none⟩))], [],
          [rowL encF (.slice (some ⟨fb, 0, none⟩) 301 301) 49 6 x.F, blk wb (x.s.fds.map intv) 28, tabR tb x.s], x.h⟩)
          (fun x => SInv x.s x.F x.la ∧ x.s.all.length ≤ k + 1 ∧ le h2 x.h) ?_ ?_
        · (repeat (first | refine W_seq ?_ | refine W_block ?_))
          by_cases d0 : l[k].d = 0
          · have c1 := open_fn h2 tb s l[k].f hs.ok
            unfold DS.openN DS.openE at c1
            skip
            refine W_region rfl ?_
            refine WL_is (X_eql_t rfl rfl rfl (by omega)) rfl rfl rfl ?_
            refine WL_is (X_assign rfl rfl) rfl rfl rfl ?_
            (repeat (first | refine WL_nil ?_ | refine Then_normal ?_ | refine W_seq ?_ | refine W_true rfl ?_))
            skip
            refine W_region rfl ?_
            refine WL_is (X_move rfl rfl) rfl rfl rfl ?_
            refine WL_is (X_fieldAddr rfl rfl rfl (by simp only [Nat.zero_add] <;> rfl)) rfl rfl rfl ?_
            refine WL_is (X_loadA rfl rfl (by exact idx0) rfl rfl rfl) rfl rfl rfl ?_
            by_cases hm : least s.fds < 8
            · simp only [if_pos hm] at c1
              have hv : (s.fds.map intv)[least s.fds]? = some (.int .i64 0) := by
                have := least_lt (fds := s.fds) (by omega)
                rw [List.getElem?_map, List.getElem?_eq_getElem (by omega), this]; rfl
              refine WL_callR [_] _ rfl rfl rfl Try.func9 rfl rfl rfl rfl (perm_front 3 rfl) (c1) ?_
              rintro _ _ h3 hl3 ⟨rfl, rfl⟩
              simp only [List.cons_append, List.nil_append, List.eraseIdx_cons_succ, List.eraseIdx_cons_zero]
              refine WL_is (X_move rfl rfl) rfl rfl rfl ?_
              refine WL_is (X_extract rfl rfl rfl) rfl rfl rfl ?_
              refine WL_is (X_extract rfl rfl rfl) rfl rfl rfl ?_
              refine WL_is (X_assign rfl rfl) rfl rfl rfl ?_
              refine WL_is (X_assign rfl rfl) rfl rfl rfl ?_
              (repeat (first | refine WL_nil ?_ | refine Then_normal ?_ | refine W_seq ?_))
              skip
              refine W_region rfl ?_
              refine WL_is (X_move rfl rfl) rfl rfl rfl ?_
              refine WL_is (X_eql_t rfl rfl rfl (by omega)) rfl rfl rfl ?_
              (repeat (first | refine WL_nil ?_ | refine Then_normal ?_ | refine W_seq ?_ | refine W_true rfl ?_))
              skip
              refine W_region rfl ?_
              refine WL_is (X_move rfl rfl) rfl rfl rfl ?_
              refine WL_is (X_lss_f rfl rfl rfl (by omega)) rfl rfl rfl ?_
              refine WL_is (X_move rfl rfl) rfl rfl rfl ?_
              refine WL_is (X_move rfl rfl) rfl rfl rfl ?_
              refine WL_is (X_geq_f rfl rfl rfl (by omega)) rfl rfl rfl ?_
              refine WL_is (X_pick_f rfl rfl rfl) rfl rfl rfl ?_
              refine WL_is (X_move rfl rfl) rfl rfl rfl ?_
              refine WL_is (X_move rfl rfl) rfl rfl rfl ?_
              refine WL_is (X_index_arr (sz := 1) rfl rfl rfl rfl rfl (by omega) (by omega) (by simp only [Nat.zero_add, Int.toNat_natCast, Nat.mul_one] <;> rfl)) rfl rfl rfl ?_
              refine WL_is (X_load1 rfl rfl (by exact idx3) rfl (by assumption)) rfl rfl rfl ?_
              refine WL_is (X_neq_f rfl rfl rfl (by omega)) rfl rfl rfl ?_
              refine WL_is (X_pick_f rfl rfl rfl) rfl rfl rfl ?_
              (repeat (first | refine WL_nil ?_ | refine Then_normal ?_ | refine W_seq ?_ | refine W_skip ?_ | refine W_false rfl ?_))
              skip
              refine W_region rfl ?_
              refine WL_is (X_move rfl rfl) rfl rfl rfl ?_
              refine WL_is (X_addW rfl rfl rfl (by exact wrap_i64_in (by omega) (by omega))) rfl rfl rfl ?_
              refine WL_is (X_assign rfl rfl) rfl rfl rfl ?_
              (repeat (first | refine WL_nil ?_ | refine Then_normal ?_ | refine W_seq ?_))
              have hla : (s.all ++ [l[k].f]).length = s.all.length + 1 := by simp
              have he : s.open l[k].f = ⟨s.all ++ [l[k].f], s.fds.set (least s.fds) (s.all ++ [l[k].f]).length⟩ := by unfold DS.open; rw [if_pos hm, hla]
              have hI := hs.open l[k].f hm (by omega)
              rw [← hla, he] at hI
              rw [show ((s.all.length : Int) + 1) = (((s.all ++ [l[k].f]).length : Nat) : Int) from by omega, he]
              have his := int_set (fds := s.fds) (least s.fds) (s.all ++ [l[k].f]).length
              skip
              refine W_region rfl ?_
              refine WL_is (X_move rfl rfl) rfl rfl rfl ?_
              refine WL_is (X_move rfl rfl) rfl rfl rfl ?_
              refine WL_is (X_index_arr (sz := 1) rfl rfl rfl rfl rfl (by omega) (by omega) (by simp only [Nat.zero_add, Int.toNat_natCast, Nat.mul_one] <;> rfl)) rfl rfl rfl ?_
              refine WL_storeV (sz := 1) rfl rfl rfl (by exact idx3) rfl (by simp only [vc] <;> rfl) rfl rfl (by (simp only [List.length_map]; omega)) rfl rfl (by simp only [wr] <;> rfl) (by simp only [List.set_cons_zero, List.set_cons_succ] <;> rfl) ?_
              (repeat (first | refine WL_nil ?_ | refine Then_normal ?_))
              skip
              refine W_region rfl ?_
              refine WL_is (X_move rfl rfl) rfl rfl rfl ?_
              refine WL_is (X_fieldAddr rfl rfl rfl (by simp only [Nat.zero_add] <;> rfl)) rfl rfl rfl ?_
              refine WL_is (X_loadA rfl rfl (by exact idx1) rfl rfl rfl) rfl rfl rfl ?_
              refine WL_is (X_index_arrspot (sz := 6) rfl rfl rfl rfl rfl (by omega)) rfl rfl rfl ?_
              refine WL_store_spot rfl rfl rfl (by exact idx2) (by omega) rfl rfl rfl rfl rfl (by omega) rfl rfl rfl rfl ?_
              (repeat (first | refine WL_nil ?_ | refine Then_normal ?_ | refine inBlk_normal ?_))
              rw [his]
              refine ⟨⟨k, _, _, la, h3⟩, ⟨(by repeat (first | exact SubE_nil | refine SubE_cons rfl ?_)), rfl, SubR.trans (SubR.of_perm (perm_front 2 rfl)) (SubR.cons _ (SubR.trans (SubR.of_perm (perm_front 2 rfl)) (SubR.cons _ (SubR.cons _ (SubR.none _))))), rfl⟩, hI, by dsimp only; omega, hl3⟩
            · simp only [if_neg hm] at c1
              have he : s.open l[k].f = s := by unfold DS.open; rw [if_neg hm]
              rw [he] at c1
              refine WL_callR [_] _ rfl rfl rfl Try.func9 rfl rfl rfl rfl (perm_front 3 rfl) (c1) ?_
              rintro _ _ h3 hl3 ⟨rfl, rfl⟩
              simp only [List.cons_append, List.nil_append, List.eraseIdx_cons_succ, List.eraseIdx_cons_zero]
              refine WL_is (X_move rfl rfl) rfl rfl rfl ?_
              refine WL_is (X_extract rfl rfl rfl) rfl rfl rfl ?_
              refine WL_is (X_extract rfl rfl rfl) rfl rfl rfl ?_
              refine WL_is (X_assign rfl rfl) rfl rfl rfl ?_
              refine WL_is (X_assign rfl rfl) rfl rfl rfl ?_
              (repeat (first | refine WL_nil ?_ | refine Then_normal ?_ | refine W_seq ?_))
              skip
              refine W_region rfl ?_
              refine WL_is (X_move rfl rfl) rfl rfl rfl ?_
              refine WL_is (X_eql_f rfl rfl rfl (by omega)) rfl rfl rfl ?_
              (repeat (first | refine WL_nil ?_ | refine Then_normal ?_ | refine W_skip ?_ | refine inBlk_normal ?_ | refine W_false rfl ?_))
              refine ⟨⟨k, s, F, la, h3⟩, ⟨(by repeat (first | exact SubE_nil | refine SubE_cons rfl ?_)), rfl, SubR.trans (SubR.of_perm (perm_front 2 rfl)) (SubR.cons _ (SubR.trans (SubR.of_perm (perm_front 2 rfl)) (SubR.cons _ (SubR.cons _ (SubR.none _))))), rfl⟩, hs, by dsimp only; omega, hl3⟩
          · have hvq : (s.fds.map intv)[q]? = some (.int .i64 (s.fds[q] : Int)) := by rw [List.getElem?_map, List.getElem?_eq_getElem hql]; rfl
            have hkq : s.fds[q] ≤ s.all.length := hs.ok.le _ (List.getElem_mem hql)
            have haq := atF_nat hlen8 hql
            by_cases d2 : l[k].d = 2
            · have c1 := move_fn h2 tb s q l[k].off hs.ok
              unfold DS.moveE at c1
              rw [haq] at c1
              skip
              refine W_region rfl ?_
              refine WL_is (X_eql_f rfl rfl rfl (by omega)) rfl rfl rfl ?_
              refine WL_is (X_assign rfl rfl) rfl rfl rfl ?_
              (repeat (first | refine WL_nil ?_ | refine Then_normal ?_ | refine W_seq ?_ | refine W_false rfl ?_))
              skip
              refine W_region rfl ?_
              refine WL_is (X_eql_t rfl rfl rfl (by omega)) rfl rfl rfl ?_
              refine WL_is (X_assign rfl rfl) rfl rfl rfl ?_
              (repeat (first | refine WL_nil ?_ | refine Then_normal ?_ | refine W_seq ?_ | refine W_true rfl ?_))
              skip
              refine W_region rfl ?_
              refine WL_is (X_move rfl rfl) rfl rfl rfl ?_
              refine WL_is (X_move rfl rfl) rfl rfl rfl ?_
              refine WL_is (X_fieldAddr rfl rfl rfl (by simp only [Nat.zero_add] <;> rfl)) rfl rfl rfl ?_
              refine WL_is (X_load1 rfl rfl (by exact idx0) rfl rfl) rfl rfl rfl ?_
              by_cases h0 : s.fds[q] = 0
              · simp only [if_pos h0] at c1
                have he : s.move q l[k].off = s := by unfold DS.move; rw [haq, if_pos (Or.inl h0)]
                rw [he] at c1
                refine WL_callR [_] _ rfl rfl rfl Try.func11 rfl rfl rfl rfl (perm_front 3 rfl) (c1) ?_
                rintro _ _ h3 hl3 ⟨rfl, rfl⟩
                simp only [List.cons_append, List.nil_append, List.eraseIdx_cons_succ, List.eraseIdx_cons_zero]
                refine WL_is (X_eql_f rfl rfl rfl (by omega)) rfl rfl rfl ?_
                (repeat (first | refine WL_nil ?_ | refine Then_normal ?_ | refine W_skip ?_ | refine inBlk_normal ?_ | refine W_false rfl ?_))
                refine ⟨⟨k, s, F, la, h3⟩, ⟨(by repeat (first | exact SubE_nil | refine SubE_cons rfl ?_)), rfl, SubR.trans (SubR.of_perm (perm_front 2 rfl)) (SubR.cons _ (SubR.trans (SubR.of_perm (perm_front 2 rfl)) (SubR.cons _ (SubR.cons _ (SubR.none _))))), rfl⟩, hs, by dsimp only; omega, hl3⟩
              · by_cases ho : l[k].off < 0
                · simp only [if_neg h0, if_pos ho] at c1
                  have he : s.move q l[k].off = s := by unfold DS.move; rw [haq, if_pos (Or.inr ho)]
                  rw [he] at c1
                  refine WL_callR [_] _ rfl rfl rfl Try.func11 rfl rfl rfl rfl (perm_front 3 rfl) (c1) ?_
                  rintro _ _ h3 hl3 ⟨rfl, rfl⟩
                  simp only [List.cons_append, List.nil_append, List.eraseIdx_cons_succ, List.eraseIdx_cons_zero]
                  refine WL_is (X_eql_f rfl rfl rfl (by omega)) rfl rfl rfl ?_
                  (repeat (first | refine WL_nil ?_ | refine Then_normal ?_ | refine W_skip ?_ | refine inBlk_normal ?_ | refine W_false rfl ?_))
                  refine ⟨⟨k, s, F, la, h3⟩, ⟨(by repeat (first | exact SubE_nil | refine SubE_cons rfl ?_)), rfl, SubR.trans (SubR.of_perm (perm_front 2 rfl)) (SubR.cons _ (SubR.trans (SubR.of_perm (perm_front 2 rfl)) (SubR.cons _ (SubR.cons _ (SubR.none _))))), rfl⟩, hs, by dsimp only; omega, hl3⟩
                · simp only [if_neg h0, if_neg ho] at c1
                  obtain ⟨he, hI⟩ := hs.move hql h0 ho (by omega) (by omega)
                  have hml : (s.move q l[k].off).all.length = s.all.length := by rw [he]; simp
                  have hmf : (s.move q l[k].off).fds = s.fds := by rw [he]
                  refine WL_callR [_] _ rfl rfl rfl Try.func11 rfl rfl rfl rfl (perm_front 3 rfl) (c1) ?_
                  rintro _ _ h3 hl3 ⟨rfl, rfl⟩
                  simp only [List.cons_append, List.nil_append, List.eraseIdx_cons_succ, List.eraseIdx_cons_zero]
                  refine WL_is (X_eql_t rfl rfl rfl (by omega)) rfl rfl rfl ?_
                  (repeat (first | refine WL_nil ?_ | refine Then_normal ?_ | refine W_true rfl ?_))
                  skip
                  refine W_draw0 5 rfl rfl rfl rfl ?_
                  refine RG_val rfl rfl (fun _ => rfl) (fun _ => X_move rfl rfl) ?_
                  refine RG_val rfl rfl (fun _ => rfl) (fun _ => X_index_arr (sz := 1) rfl rfl rfl rfl rfl (by omega) (by omega) (by simp only [Nat.zero_add, Int.toNat_natCast, Nat.mul_one] <;> rfl)) ?_
                  refine RG_val rfl rfl (fun _ => rfl) (fun _ => X_load1 rfl rfl (by exact idx3) rfl (by assumption)) ?_
                  refine RG_val rfl rfl (fun _ => rfl) (fun _ => X_fieldAddr rfl rfl rfl (by simp only [Nat.zero_add] <;> rfl)) ?_
                  refine RG_val rfl rfl (fun _ => rfl) (fun _ => X_load1 rfl rfl (by exact idx1) rfl rfl) ?_
                  refine RG_nil ?_
                  refine RG_endv rfl (fun vs => by simp only [endE, List.cons_append, List.nil_append] <;> rfl) (fun vs => rfl) ?_
                  refine WL_is (X_index_arrspot (sz := 6) rfl rfl rfl rfl rfl (by omega)) rfl rfl rfl ?_
                  refine WL_is (X_fieldAddr_spot rfl rfl rfl (by simp only [Nat.zero_add] <;> rfl)) rfl rfl rfl ?_
                  refine WL_store_spot rfl rfl rfl (by exact idx2) (by omega) rfl rfl rfl rfl rfl (by omega) rfl rfl rfl rfl ?_
                  (repeat (first | refine WL_nil ?_ | refine Then_normal ?_ | refine inBlk_normal ?_))
                  refine ⟨⟨k, s.move q l[k].off, F.set s.fds[q] { F[s.fds[q]] with off := l[k].off }, la, h3⟩, ?_, hI, by dsimp only; omega, hl3⟩
                  dsimp only
                  rw [hml, hmf]
                  exact ⟨(by repeat (first | exact SubE_nil | refine SubE_cons rfl ?_)), rfl, SubR.trans (SubR.of_perm (perm_front 2 rfl)) (SubR.cons _ (SubR.trans (SubR.of_perm (perm_front 2 rfl)) (SubR.cons _ (SubR.cons _ (SubR.none _))))), rfl⟩
            · by_cases d3 : l[k].d = 3
              · have c1 := dup_fn h2 tb s q hs.ok
                unfold DS.dupN DS.dupE at c1
                rw [haq] at c1
                skip
                refine W_region rfl ?_
                refine WL_is (X_eql_f rfl rfl rfl (by omega)) rfl rfl rfl ?_
                refine WL_is (X_assign rfl rfl) rfl rfl rfl ?_
                (repeat (first | refine WL_nil ?_ | refine Then_normal ?_ | refine W_seq ?_ | refine W_false rfl ?_))
                skip
                refine W_region rfl ?_
                refine WL_is (X_eql_f rfl rfl rfl (by omega)) rfl rfl rfl ?_
                refine WL_is (X_assign rfl rfl) rfl rfl rfl ?_
                (repeat (first | refine WL_nil ?_ | refine Then_normal ?_ | refine W_seq ?_ | refine W_false rfl ?_))
                skip
                refine W_region rfl ?_
                refine WL_is (X_eql_t rfl rfl rfl (by omega)) rfl rfl rfl ?_
                refine WL_is (X_assign rfl rfl) rfl rfl rfl ?_
                (repeat (first | refine WL_nil ?_ | refine Then_normal ?_ | refine W_seq ?_ | refine W_true rfl ?_))
                skip
                refine W_region rfl ?_
                refine WL_is (X_move rfl rfl) rfl rfl rfl ?_
                refine WL_is (X_move rfl rfl) rfl rfl rfl ?_
                by_cases h0 : s.fds[q] = 0
                · simp only [if_pos h0, if_pos (Or.inl h0 : s.fds[q] = 0 ∨ ¬ least s.fds < 8)] at c1
                  have he : s.dup q = s := by unfold DS.dup; rw [haq, if_pos (Or.inl h0)]
                  rw [he] at c1
                  refine WL_callR [_] _ rfl rfl rfl Try.func13 rfl rfl rfl rfl (perm_front 3 rfl) (c1) ?_
                  rintro _ _ h3 hl3 ⟨rfl, rfl⟩
                  simp only [List.cons_append, List.nil_append, List.eraseIdx_cons_succ, List.eraseIdx_cons_zero]
                  refine WL_is (X_move rfl rfl) rfl rfl rfl ?_
                  refine WL_is (X_extract rfl rfl rfl) rfl rfl rfl ?_
                  refine WL_is (X_extract rfl rfl rfl) rfl rfl rfl ?_
                  refine WL_is (X_assign rfl rfl) rfl rfl rfl ?_
                  refine WL_is (X_assign rfl rfl) rfl rfl rfl ?_
                  (repeat (first | refine WL_nil ?_ | refine Then_normal ?_ | refine W_seq ?_))
                  skip
                  refine W_region rfl ?_
                  refine WL_is (X_move rfl rfl) rfl rfl rfl ?_
                  refine WL_is (X_eql_f rfl rfl rfl (by omega)) rfl rfl rfl ?_
                  (repeat (first | refine WL_nil ?_ | refine Then_normal ?_ | refine W_skip ?_ | refine inBlk_normal ?_ | refine W_false rfl ?_))
                  refine ⟨⟨k, s, F, la, h3⟩, ⟨(by repeat (first | exact SubE_nil | refine SubE_cons rfl ?_)), rfl, SubR.trans (SubR.of_perm (perm_front 2 rfl)) (SubR.cons _ (SubR.trans (SubR.of_perm (perm_front 2 rfl)) (SubR.cons _ (SubR.cons _ (SubR.none _))))), rfl⟩, hs, by dsimp only; omega, hl3⟩
                · by_cases hm : least s.fds < 8
                  · simp only [if_neg h0, if_pos hm, if_neg (not_or.2 ⟨h0, not_not_intro hm⟩)] at c1
                    obtain ⟨he, hI⟩ := hs.dup hql h0 hm
                    rw [he] at c1 hI
                    have hv : (s.fds.map intv)[least s.fds]? = some (.int .i64 0) := by
                      have := least_lt (fds := s.fds) (by omega)
                      rw [List.getElem?_map, List.getElem?_eq_getElem (by omega), this]; rfl
                    have his := int_set (fds := s.fds) (least s.fds) s.fds[q]
                    refine WL_callR [_] _ rfl rfl rfl Try.func13 rfl rfl rfl rfl (perm_front 3 rfl) (c1) ?_
                    rintro _ _ h3 hl3 ⟨rfl, rfl⟩
                    simp only [List.cons_append, List.nil_append, List.eraseIdx_cons_succ, List.eraseIdx_cons_zero]
                    refine WL_is (X_move rfl rfl) rfl rfl rfl ?_
                    refine WL_is (X_extract rfl rfl rfl) rfl rfl rfl ?_
                    refine WL_is (X_extract rfl rfl rfl) rfl rfl rfl ?_
                    refine WL_is (X_assign rfl rfl) rfl rfl rfl ?_
                    refine WL_is (X_assign rfl rfl) rfl rfl rfl ?_
                    (repeat (first | refine WL_nil ?_ | refine Then_normal ?_ | refine W_seq ?_))
                    skip
                    refine W_region rfl ?_
                    refine WL_is (X_move rfl rfl) rfl rfl rfl ?_
                    refine WL_is (X_eql_t rfl rfl rfl (by omega)) rfl rfl rfl ?_
                    (repeat (first | refine WL_nil ?_ | refine Then_normal ?_ | refine W_seq ?_ | refine W_true rfl ?_))
                    skip
                    refine W_region rfl ?_
                    refine WL_is (X_move rfl rfl) rfl rfl rfl ?_
                    refine WL_is (X_lss_f rfl rfl rfl (by omega)) rfl rfl rfl ?_
                    refine WL_is (X_move rfl rfl) rfl rfl rfl ?_
                    refine WL_is (X_move rfl rfl) rfl rfl rfl ?_
                    refine WL_is (X_geq_f rfl rfl rfl (by omega)) rfl rfl rfl ?_
                    refine WL_is (X_pick_f rfl rfl rfl) rfl rfl rfl ?_
                    refine WL_is (X_move rfl rfl) rfl rfl rfl ?_
                    refine WL_is (X_move rfl rfl) rfl rfl rfl ?_
                    refine WL_is (X_index_arr (sz := 1) rfl rfl rfl rfl rfl (by omega) (by omega) (by simp only [Nat.zero_add, Int.toNat_natCast, Nat.mul_one] <;> rfl)) rfl rfl rfl ?_
                    refine WL_is (X_load1 rfl rfl (by exact idx3) rfl (by assumption)) rfl rfl rfl ?_
                    refine WL_is (X_neq_f rfl rfl rfl (by omega)) rfl rfl rfl ?_
                    refine WL_is (X_pick_f rfl rfl rfl) rfl rfl rfl ?_
                    refine WL_is (X_move rfl rfl) rfl rfl rfl ?_
                    refine WL_is (X_move rfl rfl) rfl rfl rfl ?_
                    refine WL_is (X_index_arr (sz := 1) rfl rfl rfl rfl rfl (by omega) (by omega) (by simp only [Nat.zero_add, Int.toNat_natCast, Nat.mul_one] <;> rfl)) rfl rfl rfl ?_
                    refine WL_is (X_load1 rfl rfl (by exact idx3) rfl (by assumption)) rfl rfl rfl ?_
                    refine WL_is (X_eql_f rfl rfl rfl (by omega)) rfl rfl rfl ?_
                    refine WL_is (X_pick_f rfl rfl rfl) rfl rfl rfl ?_
                    (repeat (first | refine WL_nil ?_ | refine Then_normal ?_ | refine W_skip ?_ | refine W_false rfl ?_))
                    skip
                    refine W_region rfl ?_
                    refine WL_is (X_move rfl rfl) rfl rfl rfl ?_
                    refine WL_is (X_move rfl rfl) rfl rfl rfl ?_
                    refine WL_is (X_index_arr (sz := 1) rfl rfl rfl rfl rfl (by omega) (by omega) (by simp only [Nat.zero_add, Int.toNat_natCast, Nat.mul_one] <;> rfl)) rfl rfl rfl ?_
                    refine WL_is (X_load1 rfl rfl (by exact idx3) rfl (by assumption)) rfl rfl rfl ?_
                    refine WL_is (X_index_arr (sz := 1) rfl rfl rfl rfl rfl (by omega) (by omega) (by simp only [Nat.zero_add, Int.toNat_natCast, Nat.mul_one] <;> rfl)) rfl rfl rfl ?_
                    refine WL_storeV (sz := 1) rfl rfl rfl (by exact idx3) rfl (by simp only [vc] <;> rfl) rfl rfl (by (simp only [List.length_map]; omega)) rfl rfl (by simp only [wr] <;> rfl) (by simp only [List.set_cons_zero, List.set_cons_succ] <;> rfl) ?_
                    (repeat (first | refine WL_nil ?_ | refine Then_normal ?_ | refine inBlk_normal ?_))
                    rw [his]
                    refine ⟨⟨k, _, F, la, h3⟩, ⟨(by repeat (first | exact SubE_nil | refine SubE_cons rfl ?_)), rfl, SubR.trans (SubR.of_perm (perm_front 2 rfl)) (SubR.cons _ (SubR.trans (SubR.of_perm (perm_front 2 rfl)) (SubR.cons _ (SubR.cons _ (SubR.none _))))), rfl⟩, hI, by dsimp only; omega, hl3⟩
                  · simp only [if_neg h0, if_neg hm, if_pos (Or.inr hm : s.fds[q] = 0 ∨ ¬ least s.fds < 8)] at c1
                    have he : s.dup q = s := by unfold DS.dup; rw [haq, if_pos (Or.inr hm)]
                    rw [he] at c1
                    refine WL_callR [_] _ rfl rfl rfl Try.func13 rfl rfl rfl rfl (perm_front 3 rfl) (c1) ?_
                    rintro _ _ h3 hl3 ⟨rfl, rfl⟩
                    simp only [List.cons_append, List.nil_append, List.eraseIdx_cons_succ, List.eraseIdx_cons_zero]
                    refine WL_is (X_move rfl rfl) rfl rfl rfl ?_
                    refine WL_is (X_extract rfl rfl rfl) rfl rfl rfl ?_
                    refine WL_is (X_extract rfl rfl rfl) rfl rfl rfl ?_
                    refine WL_is (X_assign rfl rfl) rfl rfl rfl ?_
                    refine WL_is (X_assign rfl rfl) rfl rfl rfl ?_
                    (repeat (first | refine WL_nil ?_ | refine Then_normal ?_ | refine W_seq ?_))
                    skip
                    refine W_region rfl ?_
                    refine WL_is (X_move rfl rfl) rfl rfl rfl ?_
                    refine WL_is (X_eql_f rfl rfl rfl (by omega)) rfl rfl rfl ?_
                    (repeat (first | refine WL_nil ?_ | refine Then_normal ?_ | refine W_skip ?_ | refine inBlk_normal ?_ | refine W_false rfl ?_))
                    refine ⟨⟨k, s, F, la, h3⟩, ⟨(by repeat (first | exact SubE_nil | refine SubE_cons rfl ?_)), rfl, SubR.trans (SubR.of_perm (perm_front 2 rfl)) (SubR.cons _ (SubR.trans (SubR.of_perm (perm_front 2 rfl)) (SubR.cons _ (SubR.cons _ (SubR.none _))))), rfl⟩, hs, by dsimp only; omega, hl3⟩
              · by_cases d4 : l[k].d = 4
                · have c1 := close_fn h2 tb s q hs.ok
                  unfold DS.err at c1
                  rw [haq] at c1
                  skip
                  refine W_region rfl ?_
                  refine WL_is (X_eql_f rfl rfl rfl (by omega)) rfl rfl rfl ?_
                  refine WL_is (X_assign rfl rfl) rfl rfl rfl ?_
                  (repeat (first | refine WL_nil ?_ | refine Then_normal ?_ | refine W_seq ?_ | refine W_false rfl ?_))
                  skip
                  refine W_region rfl ?_
                  refine WL_is (X_eql_f rfl rfl rfl (by omega)) rfl rfl rfl ?_
                  refine WL_is (X_assign rfl rfl) rfl rfl rfl ?_
                  (repeat (first | refine WL_nil ?_ | refine Then_normal ?_ | refine W_seq ?_ | refine W_false rfl ?_))
                  skip
                  refine W_region rfl ?_
                  refine WL_is (X_eql_f rfl rfl rfl (by omega)) rfl rfl rfl ?_
                  refine WL_is (X_assign rfl rfl) rfl rfl rfl ?_
                  (repeat (first | refine WL_nil ?_ | refine Then_normal ?_ | refine W_seq ?_ | refine W_false rfl ?_))
                  skip
                  refine W_region rfl ?_
                  refine WL_is (X_eql_t rfl rfl rfl (by omega)) rfl rfl rfl ?_
                  refine WL_is (X_assign rfl rfl) rfl rfl rfl ?_
                  (repeat (first | refine WL_nil ?_ | refine Then_normal ?_ | refine W_seq ?_ | refine W_true rfl ?_))
                  skip
                  refine W_region rfl ?_
                  refine WL_is (X_move rfl rfl) rfl rfl rfl ?_
                  refine WL_is (X_move rfl rfl) rfl rfl rfl ?_
                  by_cases h0 : s.fds[q] = 0
                  · simp only [if_pos h0] at c1
                    have he : s.close q = s := by unfold DS.close; rw [haq, if_pos h0]
                    rw [he] at c1
                    refine WL_callR [_] _ rfl rfl rfl Try.func15 rfl rfl rfl rfl (perm_front 3 rfl) (c1) ?_
                    rintro _ _ h3 hl3 ⟨rfl, rfl⟩
                    simp only [List.cons_append, List.nil_append, List.eraseIdx_cons_succ, List.eraseIdx_cons_zero]
                    simp only [fileV]
                    refine WL_is (X_move rfl rfl) rfl rfl rfl ?_
                    refine WL_is (X_extract rfl rfl rfl) rfl rfl rfl ?_
                    refine WL_is (X_extract rfl rfl rfl) rfl rfl rfl ?_
                    refine WL_is (X_extract rfl rfl rfl) rfl rfl rfl ?_
                    (refine WL_alloc rfl rfl rfl rfl rfl rfl ?_; intro b_)
                    refine WL_store rfl rfl rfl (by exact idx0) rfl rfl rfl rfl rfl rfl rfl rfl rfl ?_
                    refine WL_is (X_assign rfl rfl) rfl rfl rfl ?_
                    refine WL_is (X_assign rfl rfl) rfl rfl rfl ?_
                    (repeat (first | refine WL_nil ?_ | refine Then_normal ?_ | refine W_seq ?_))
                    skip
                    refine W_region rfl ?_
                    refine WL_is (X_move rfl rfl) rfl rfl rfl ?_
                    refine WL_is (X_eql_f rfl rfl rfl (by omega)) rfl rfl rfl ?_
                    (repeat (first | refine WL_nil ?_ | refine Then_normal ?_ | refine W_skip ?_ | refine inBlk_normal ?_ | refine W_false rfl ?_))
                    refine ⟨⟨k, s, F, la, h3⟩, ⟨(by repeat (first | exact SubE_nil | refine SubE_cons rfl ?_)), rfl, SubR.trans (SubR.of_perm (perm_front 3 rfl)) (SubR.cons _ (SubR.trans (SubR.of_perm (perm_front 3 rfl)) (SubR.cons _ (SubR.skip _ (SubR.cons _ (SubR.none _)))))), rfl⟩, hs, by dsimp only; omega, hl3⟩
                  · simp only [if_neg h0] at c1
                    obtain ⟨he, hI⟩ := hs.close hql h0
                    have hfile := hs.file hql h0 (by omega)
                    rw [hfile] at c1
                    have his := int_set (fds := s.fds) q 0
                    have his : (s.fds.map intv).set q (.int .i64 0) = (s.fds.set q 0).map intv := his
                    rw [he] at c1 hI
                    cases hlast : s.last q with
                    | true =>
                      rw [hlast] at c1 hI
                      refine WL_callR [_] _ rfl rfl rfl Try.func15 rfl rfl rfl rfl (perm_front 3 rfl) (c1) ?_
                      rintro _ _ h3 hl3 ⟨rfl, rfl⟩
                      simp only [List.cons_append, List.nil_append, List.eraseIdx_cons_succ, List.eraseIdx_cons_zero]
                      simp only [fileV]
                      refine WL_is (X_move rfl rfl) rfl rfl rfl ?_
                      refine WL_is (X_extract rfl rfl rfl) rfl rfl rfl ?_
                      refine WL_is (X_extract rfl rfl rfl) rfl rfl rfl ?_
                      refine WL_is (X_extract rfl rfl rfl) rfl rfl rfl ?_
                      (refine WL_alloc rfl rfl rfl rfl rfl rfl ?_; intro b_)
                      refine WL_store rfl rfl rfl (by exact idx0) rfl rfl rfl rfl rfl rfl rfl rfl rfl ?_
                      refine WL_is (X_assign rfl rfl) rfl rfl rfl ?_
                      refine WL_is (X_assign rfl rfl) rfl rfl rfl ?_
                      (repeat (first | refine WL_nil ?_ | refine Then_normal ?_ | refine W_seq ?_))
                      skip
                      refine W_region rfl ?_
                      refine WL_is (X_move rfl rfl) rfl rfl rfl ?_
                      refine WL_is (X_eql_t rfl rfl rfl (by omega)) rfl rfl rfl ?_
                      (repeat (first | refine WL_nil ?_ | refine Then_normal ?_ | refine W_seq ?_ | refine W_true rfl ?_))
                      skip
                      refine W_draw0 6 rfl rfl rfl rfl ?_
                      refine RG_val rfl rfl (fun _ => rfl) (fun _ => X_loadA rfl rfl (by exact idx0) rfl rfl rfl) ?_
                      refine RG_val rfl rfl (fun _ => rfl) (fun _ => X_move rfl rfl) ?_
                      refine RG_val rfl rfl (fun _ => rfl) (fun _ => X_index_arr (sz := 1) rfl rfl rfl rfl rfl (by omega) (by omega) (by simp only [Nat.zero_add, Int.toNat_natCast, Nat.mul_one] <;> rfl)) ?_
                      refine RG_val rfl rfl (fun _ => rfl) (fun _ => X_load1 rfl rfl (by exact idx4) rfl (by assumption)) ?_
                      refine RG_val rfl rfl (fun _ => rfl) (fun _ => X_index_arrspot (sz := 6) rfl rfl rfl rfl rfl (by omega)) ?_
                      refine RG_val rfl rfl (fun _ => rfl) (fun _ => X_loadA_spot rfl rfl (by exact idx3) (by omega) rfl rfl rfl (by omega) rfl) ?_
                      refine RG_nil ?_
                      refine RG_endv rfl (fun vs => by simp only [endE, List.cons_append, List.nil_append] <;> rfl) (fun vs => rfl) ?_
                      refine WL_is (X_neA 8 heldOk guardOk rfl rfl rfl rfl rfl rfl rfl) rfl rfl rfl ?_
                      (repeat (first | refine WL_nil ?_ | refine Then_normal ?_))
                      simp only [beq_self_eq_true, Bool.and_self, Bool.not_true]
                      (repeat (first | refine Then_normal ?_ | refine W_seq ?_ | refine W_skip ?_ | refine W_false rfl ?_))
                      refine W_region rfl ?_
                      refine WL_is (X_move rfl rfl) rfl rfl rfl ?_
                      refine WL_is (X_index_arr (sz := 1) rfl rfl rfl rfl rfl (by omega) (by omega) (by simp only [Nat.zero_add, Int.toNat_natCast, Nat.mul_one] <;> rfl)) rfl rfl rfl ?_
                      refine WL_storeV (sz := 1) rfl rfl rfl (by exact idx4) rfl (by simp only [vc] <;> rfl) rfl rfl (by (simp only [List.length_map]; omega)) rfl rfl (by simp only [wr] <;> rfl) (by simp only [List.set_cons_zero, List.set_cons_succ] <;> rfl) ?_
                      (repeat (first | refine WL_nil ?_ | refine Then_normal ?_ | refine W_seq ?_))
                      skip
                      refine W_region rfl ?_
                      refine WL_is (X_move rfl rfl) rfl rfl rfl ?_
                      (repeat (first | refine WL_nil ?_ | refine Then_normal ?_ | refine W_true rfl ?_))
                      skip
                      refine W_region rfl ?_
                      refine WL_is (X_move rfl rfl) rfl rfl rfl ?_
                      refine WL_is (X_addW rfl rfl rfl (by exact wrap_i64_in (by omega) (by omega))) rfl rfl rfl ?_
                      refine WL_is (X_assign rfl rfl) rfl rfl rfl ?_
                      (repeat (first | refine WL_nil ?_ | refine Then_normal ?_ | refine inBlk_normal ?_))
                      rw [his]
                      refine ⟨⟨k, _, F, la + 1, h3⟩, ⟨(by repeat (first | exact SubE_nil | refine SubE_cons rfl ?_)), rfl, SubR.trans (SubR.of_perm (perm_front 3 rfl)) (SubR.cons _ (SubR.trans (SubR.of_perm (perm_front 3 rfl)) (SubR.cons _ (SubR.skip _ (SubR.cons _ (SubR.none _)))))), rfl⟩, hI, by dsimp only; omega, hl3⟩
                    | false =>
                      rw [hlast] at c1 hI
                      refine WL_callR [_] _ rfl rfl rfl Try.func15 rfl rfl rfl rfl (perm_front 3 rfl) (c1) ?_
                      rintro _ _ h3 hl3 ⟨rfl, rfl⟩
                      simp only [List.cons_append, List.nil_append, List.eraseIdx_cons_succ, List.eraseIdx_cons_zero]
                      simp only [fileV]
                      refine WL_is (X_move rfl rfl) rfl rfl rfl ?_
                      refine WL_is (X_extract rfl rfl rfl) rfl rfl rfl ?_
                      refine WL_is (X_extract rfl rfl rfl) rfl rfl rfl ?_
                      refine WL_is (X_extract rfl rfl rfl) rfl rfl rfl ?_
                      (refine WL_alloc rfl rfl rfl rfl rfl rfl ?_; intro b_)
                      refine WL_store rfl rfl rfl (by exact idx0) rfl rfl rfl rfl rfl rfl rfl rfl rfl ?_
                      refine WL_is (X_assign rfl rfl) rfl rfl rfl ?_
                      refine WL_is (X_assign rfl rfl) rfl rfl rfl ?_
                      (repeat (first | refine WL_nil ?_ | refine Then_normal ?_ | refine W_seq ?_))
                      skip
                      refine W_region rfl ?_
                      refine WL_is (X_move rfl rfl) rfl rfl rfl ?_
                      refine WL_is (X_eql_t rfl rfl rfl (by omega)) rfl rfl rfl ?_
                      (repeat (first | refine WL_nil ?_ | refine Then_normal ?_ | refine W_seq ?_ | refine W_true rfl ?_))
                      skip
                      refine W_draw0 6 rfl rfl rfl rfl ?_
                      refine RG_val rfl rfl (fun _ => rfl) (fun _ => X_loadA rfl rfl (by exact idx0) rfl rfl rfl) ?_
                      refine RG_val rfl rfl (fun _ => rfl) (fun _ => X_move rfl rfl) ?_
                      refine RG_val rfl rfl (fun _ => rfl) (fun _ => X_index_arr (sz := 1) rfl rfl rfl rfl rfl (by omega) (by omega) (by simp only [Nat.zero_add, Int.toNat_natCast, Nat.mul_one] <;> rfl)) ?_
                      refine RG_val rfl rfl (fun _ => rfl) (fun _ => X_load1 rfl rfl (by exact idx4) rfl (by assumption)) ?_
                      refine RG_val rfl rfl (fun _ => rfl) (fun _ => X_index_arrspot (sz := 6) rfl rfl rfl rfl rfl (by omega)) ?_
                      refine RG_val rfl rfl (fun _ => rfl) (fun _ => X_loadA_spot rfl rfl (by exact idx3) (by omega) rfl rfl rfl (by omega) rfl) ?_
                      refine RG_nil ?_
                      refine RG_endv rfl (fun vs => by simp only [endE, List.cons_append, List.nil_append] <;> rfl) (fun vs => rfl) ?_
                      refine WL_is (X_neA 8 heldOk guardOk rfl rfl rfl rfl rfl rfl rfl) rfl rfl rfl ?_
                      (repeat (first | refine WL_nil ?_ | refine Then_normal ?_))
                      simp only [beq_self_eq_true, Bool.and_self, Bool.not_true]
                      (repeat (first | refine Then_normal ?_ | refine W_seq ?_ | refine W_skip ?_ | refine W_false rfl ?_))
                      refine W_region rfl ?_
                      refine WL_is (X_move rfl rfl) rfl rfl rfl ?_
                      refine WL_is (X_index_arr (sz := 1) rfl rfl rfl rfl rfl (by omega) (by omega) (by simp only [Nat.zero_add, Int.toNat_natCast, Nat.mul_one] <;> rfl)) rfl rfl rfl ?_
                      refine WL_storeV (sz := 1) rfl rfl rfl (by exact idx4) rfl (by simp only [vc] <;> rfl) rfl rfl (by (simp only [List.length_map]; omega)) rfl rfl (by simp only [wr] <;> rfl) (by simp only [List.set_cons_zero, List.set_cons_succ] <;> rfl) ?_
                      (repeat (first | refine WL_nil ?_ | refine Then_normal ?_ | refine W_seq ?_))
                      skip
                      refine W_region rfl ?_
                      refine WL_is (X_move rfl rfl) rfl rfl rfl ?_
                      (repeat (first | refine WL_nil ?_ | refine Then_normal ?_ | refine W_skip ?_ | refine inBlk_normal ?_ | refine W_false rfl ?_))
                      rw [his]
                      refine ⟨⟨k, _, F, la, h3⟩, ⟨(by repeat (first | exact SubE_nil | refine SubE_cons rfl ?_)), rfl, SubR.trans (SubR.of_perm (perm_front 3 rfl)) (SubR.cons _ (SubR.trans (SubR.of_perm (perm_front 3 rfl)) (SubR.cons _ (SubR.skip _ (SubR.cons _ (SubR.none _)))))), rfl⟩, hI, by dsimp only; omega, hl3⟩
                · skip
                  refine W_region rfl ?_
                  refine WL_is (X_eql_f rfl rfl rfl (by omega)) rfl rfl rfl ?_
                  refine WL_is (X_assign rfl rfl) rfl rfl rfl ?_
                  (repeat (first | refine WL_nil ?_ | refine Then_normal ?_ | refine W_seq ?_ | refine W_false rfl ?_))
                  skip
                  refine W_region rfl ?_
                  refine WL_is (X_eql_f rfl rfl rfl (by omega)) rfl rfl rfl ?_
                  refine WL_is (X_assign rfl rfl) rfl rfl rfl ?_
                  (repeat (first | refine WL_nil ?_ | refine Then_normal ?_ | refine W_seq ?_ | refine W_false rfl ?_))
                  skip
                  refine W_region rfl ?_
                  refine WL_is (X_eql_f rfl rfl rfl (by omega)) rfl rfl rfl ?_
                  refine WL_is (X_assign rfl rfl) rfl rfl rfl ?_
                  (repeat (first | refine WL_nil ?_ | refine Then_normal ?_ | refine W_seq ?_ | refine W_false rfl ?_))
                  skip
                  refine W_region rfl ?_
                  refine WL_is (X_eql_f rfl rfl rfl (by omega)) rfl rfl rfl ?_
                  refine WL_is (X_assign rfl rfl) rfl rfl rfl ?_
                  (repeat (first | refine WL_nil ?_ | refine Then_normal ?_ | refine W_skip ?_ | refine inBlk_normal ?_ | refine W_false rfl ?_))
                  exact ⟨⟨k, s, F, la, h2⟩, ⟨(by repeat (first | exact SubE_nil | refine SubE_cons rfl ?_)), rfl, SubR.skip _ (SubR.refl _), rfl⟩, hs, by dsimp only; omega, le.refl _⟩
        · rintro ⟨k', s', F', la', h3⟩ ⟨hI, hn', hl3⟩
          dsimp only at hI hn' hl3 ⊢
          have hlen8' := hI.ok.len
          have hF301' := hI.len
          (repeat (first | refine W_seq ?_))
          refine W_region rfl ?_
          refine WL_is (X_assign rfl rfl) rfl rfl rfl ?_
          (repeat (first | refine WL_nil ?_ | refine Then_normal ?_ | refine W_block ?_))
          refine W_loop (X := Nat × PH) (L := fun x => ⟨[(18, .int .i64 (x.1 : Int)), (8, .int .i64 (k : Int)), (0, .slice a l.length cap), (3, .pointer (some ⟨tb, 0, none⟩)), (4, .int .i64 (s'.all.length : Int)), (5, .int .i64 (la' : Int)), (6, .pointer (some ⟨wb, 0, none⟩)), (7, .pointer (some ⟨fb, 0, none⟩))], [],
              [rowL encF (.slice (some ⟨fb, 0, none⟩) 301 301) 49 6 F', blk wb (s'.fds.map intv) 28, tabR tb s'], x.2⟩)
            (p := fun x => x.1 ≤ 8 ∧ le h3 x.2) (μ := fun x => 8 - x.1) ⟨0, h3⟩ ⟨(by repeat (first | exact SubE_nil | refine SubE_cons rfl ?_)), rfl, SubR.refl _, rfl⟩ ⟨Nat.zero_le _, le.refl _⟩ ?_
          rintro ⟨i, h4⟩ ⟨hi8, hl4⟩
          dsimp only at hi8 hl4 ⊢
          by_cases hi : i < 8
          · have hil : i < s'.fds.length := by omega
            have hvi : (s'.fds.map intv)[i]? = some (.int .i64 (s'.fds[i] : Int)) := by rw [List.getElem?_map, List.getElem?_eq_getElem hil]; rfl
            have hki : s'.fds[i] ≤ s'.all.length := hI.ok.le _ (List.getElem_mem hil)
            have hai := atF_nat hlen8' hil
            have c1 := get_fn h4 tb s' i hI.ok
            unfold DS.err at c1
            rw [hai] at c1
            (repeat (first | refine W_seq ?_))
            refine W_region rfl ?_
            refine WL_is (X_move rfl rfl) rfl rfl rfl ?_
            refine WL_is (X_lss_t rfl rfl rfl (by omega)) rfl rfl rfl ?_
            (repeat (first | refine WL_nil ?_ | refine Then_normal ?_ | refine W_seq ?_ | refine W_skip ?_ | refine W_block ?_ | refine W_true rfl ?_))
            skip
            refine W_region rfl ?_
            refine WL_is (X_move rfl rfl) rfl rfl rfl ?_
            refine WL_is (X_move rfl rfl) rfl rfl rfl ?_
            by_cases h0 : s'.fds[i] = 0
            · simp only [if_pos h0] at c1
              refine WL_callR [_] _ rfl rfl rfl Try.func17 rfl rfl rfl rfl (perm_front 2 rfl) (c1) ?_
              rintro _ _ h5 hl5 ⟨rfl, rfl⟩
              simp only [List.cons_append, List.nil_append, List.eraseIdx_cons_succ, List.eraseIdx_cons_zero]
              simp only [fileV]
              refine WL_is (X_move rfl rfl) rfl rfl rfl ?_
              refine WL_is (X_extract rfl rfl rfl) rfl rfl rfl ?_
              refine WL_is (X_extract rfl rfl rfl) rfl rfl rfl ?_
              (refine WL_alloc rfl rfl rfl rfl rfl rfl ?_; intro b_)
              refine WL_store rfl rfl rfl (by exact idx0) rfl rfl rfl rfl rfl rfl rfl rfl rfl ?_
              refine WL_is (X_assign rfl rfl) rfl rfl rfl ?_
              (repeat (first | refine WL_nil ?_ | refine Then_normal ?_ | refine W_seq ?_))
              skip
              refine W_draw0 17 rfl rfl rfl rfl ?_
              refine RG_val rfl rfl (fun _ => rfl) (fun _ => X_move rfl rfl) ?_
              refine RG_val rfl rfl (fun _ => rfl) (fun _ => X_eql_f rfl rfl rfl (by omega)) ?_
              refine RG_val rfl rfl (fun _ => rfl) (fun _ => X_move rfl rfl) ?_
              refine RG_val rfl rfl (fun _ => rfl) (fun _ => X_index_arr (sz := 1) rfl rfl rfl rfl rfl (by omega) (by omega) (by simp only [Nat.zero_add, Int.toNat_natCast, Nat.mul_one] <;> rfl)) ?_
              refine RG_val rfl rfl (fun _ => rfl) (fun _ => X_load1 rfl rfl (by exact idx3) rfl (by assumption)) ?_
              refine RG_val rfl rfl (fun _ => rfl) (fun _ => X_gtr_f rfl rfl rfl (by omega)) ?_
              refine RG_val rfl rfl (fun _ => rfl) (fun _ => X_neB rfl rfl rfl rfl) ?_
              refine RG_val rfl rfl (fun _ => rfl) (fun _ => X_move rfl rfl) ?_
              refine RG_val rfl rfl (fun _ => rfl) (fun _ => X_move rfl rfl) ?_
              refine RG_val rfl rfl (fun _ => rfl) (fun _ => X_eql_f rfl rfl rfl (by omega)) ?_
              refine RG_val rfl rfl (fun _ => rfl) (fun _ => X_move rfl rfl) ?_
              refine RG_off rfl rfl (fun _ => rfl) ?_
              refine RG_off rfl rfl (fun _ => rfl) ?_
              refine RG_off rfl rfl (fun _ => rfl) ?_
              refine RG_off rfl rfl (fun _ => rfl) ?_
              refine RG_off rfl rfl (fun _ => rfl) ?_
              refine RG_off rfl rfl (fun _ => rfl) ?_
              refine RG_nil ?_
              refine RG_endv rfl (fun vs => by simp only [endE, List.cons_append, List.nil_append] <;> rfl) (fun vs => rfl) ?_
              refine WL_off rfl rfl rfl ?_
              refine WL_is (X_pick_f rfl rfl rfl) rfl rfl rfl ?_
              refine WL_is (X_pick_f rfl rfl rfl) rfl rfl rfl ?_
              (repeat (first | refine WL_nil ?_ | refine Then_normal ?_ | refine W_skip ?_ | refine inBlk_normal ?_ | refine W_false rfl ?_))
              skip
              refine W_region rfl ?_
              refine WL_is (X_move rfl rfl) rfl rfl rfl ?_
              refine WL_is (X_addW rfl rfl rfl (by exact wrap_i64_in (by omega) (by omega))) rfl rfl rfl ?_
              refine WL_is (X_assign rfl rfl) rfl rfl rfl ?_
              (repeat (first | refine WL_nil ?_ | refine Then_normal ?_))
              exact ⟨⟨i + 1, h5⟩, ⟨(by repeat (first | exact SubE_nil | refine SubE_cons rfl ?_)), rfl, SubR.skip _ (SubR.trans (SubR.of_perm (perm_front 1 rfl)) (SubR.cons _ (SubR.trans (SubR.of_perm (perm_front 1 rfl)) (SubR.cons _ (SubR.refl _))))), rfl⟩, ⟨by dsimp only; omega, hl4.trans hl5⟩, by dsimp only; omega⟩
            · simp only [if_neg h0] at c1
              have hfile := hI.file hil h0 (by omega)
              rw [hfile] at c1
              refine WL_callR [_] _ rfl rfl rfl Try.func17 rfl rfl rfl rfl (perm_front 2 rfl) (c1) ?_
              rintro _ _ h5 hl5 ⟨rfl, rfl⟩
              simp only [List.cons_append, List.nil_append, List.eraseIdx_cons_succ, List.eraseIdx_cons_zero]
              simp only [fileV]
              refine WL_is (X_move rfl rfl) rfl rfl rfl ?_
              refine WL_is (X_extract rfl rfl rfl) rfl rfl rfl ?_
              refine WL_is (X_extract rfl rfl rfl) rfl rfl rfl ?_
              (refine WL_alloc rfl rfl rfl rfl rfl rfl ?_; intro b_)
              refine WL_store rfl rfl rfl (by exact idx0) rfl rfl rfl rfl rfl rfl rfl rfl rfl ?_
              refine WL_is (X_assign rfl rfl) rfl rfl rfl ?_
              (repeat (first | refine WL_nil ?_ | refine Then_normal ?_ | refine W_seq ?_))
              skip
              refine W_draw0 17 rfl rfl rfl rfl ?_
              refine RG_val rfl rfl (fun _ => rfl) (fun _ => X_move rfl rfl) ?_
              refine RG_val rfl rfl (fun _ => rfl) (fun _ => X_eql_t rfl rfl rfl (by omega)) ?_
              refine RG_val rfl rfl (fun _ => rfl) (fun _ => X_move rfl rfl) ?_
              refine RG_val rfl rfl (fun _ => rfl) (fun _ => X_index_arr (sz := 1) rfl rfl rfl rfl rfl (by omega) (by omega) (by simp only [Nat.zero_add, Int.toNat_natCast, Nat.mul_one] <;> rfl)) ?_
              refine RG_val rfl rfl (fun _ => rfl) (fun _ => X_load1 rfl rfl (by exact idx3) rfl (by assumption)) ?_
              refine RG_val rfl rfl (fun _ => rfl) (fun _ => X_gtr_t rfl rfl rfl (by omega)) ?_
              refine RG_val rfl rfl (fun _ => rfl) (fun _ => X_neB rfl rfl rfl rfl) ?_
              refine RG_val rfl rfl (fun _ => rfl) (fun _ => X_move rfl rfl) ?_
              refine RG_val rfl rfl (fun _ => rfl) (fun _ => X_move rfl rfl) ?_
              refine RG_val rfl rfl (fun _ => rfl) (fun _ => X_eql_t rfl rfl rfl (by omega)) ?_
              refine RG_val rfl rfl (fun _ => rfl) (fun _ => X_move rfl rfl) ?_
              refine RG_val rfl rfl (fun _ => rfl) (fun _ => X_loadA rfl rfl (by exact idx0) rfl rfl rfl) ?_
              refine RG_val rfl rfl (fun _ => rfl) (fun _ => X_move rfl rfl) ?_
              refine RG_val rfl rfl (fun _ => rfl) (fun _ => X_index_arr (sz := 1) rfl rfl rfl rfl rfl (by omega) (by omega) (by simp only [Nat.zero_add, Int.toNat_natCast, Nat.mul_one] <;> rfl)) ?_
              refine RG_val rfl rfl (fun _ => rfl) (fun _ => X_load1 rfl rfl (by exact idx3) rfl (by assumption)) ?_
              refine RG_val rfl rfl (fun _ => rfl) (fun _ => X_index_arrspot (sz := 6) rfl rfl rfl rfl rfl (by omega)) ?_
              refine RG_val rfl rfl (fun _ => rfl) (fun _ => X_loadA_spot rfl rfl (by exact idx2) (by omega) rfl rfl rfl (by omega) rfl) ?_
              refine RG_nil ?_
              refine RG_endv rfl (fun vs => by simp only [endE, List.cons_append, List.nil_append] <;> rfl) (fun vs => rfl) ?_
              refine WL_is (X_neA 8 heldOk guardOk rfl rfl rfl rfl rfl rfl rfl) rfl rfl rfl ?_
              refine WL_is (X_pick_t rfl rfl rfl) rfl rfl rfl ?_
              refine WL_is (X_pick_f rfl rfl rfl) rfl rfl rfl ?_
              (repeat (first | refine WL_nil ?_ | refine Then_normal ?_))
              simp only [beq_self_eq_true, Bool.and_self, Bool.not_true]
              (repeat (first | refine Then_normal ?_ | refine W_skip ?_ | refine inBlk_normal ?_ | refine W_false rfl ?_))
              skip
              refine W_region rfl ?_
              refine WL_is (X_move rfl rfl) rfl rfl rfl ?_
              refine WL_is (X_addW rfl rfl rfl (by exact wrap_i64_in (by omega) (by omega))) rfl rfl rfl ?_
              refine WL_is (X_assign rfl rfl) rfl rfl rfl ?_
              (repeat (first | refine WL_nil ?_ | refine Then_normal ?_))
              exact ⟨⟨i + 1, h5⟩, ⟨(by repeat (first | exact SubE_nil | refine SubE_cons rfl ?_)), rfl, SubR.skip _ (SubR.trans (SubR.of_perm (perm_front 1 rfl)) (SubR.cons _ (SubR.trans (SubR.of_perm (perm_front 1 rfl)) (SubR.cons _ (SubR.refl _))))), rfl⟩, ⟨by dsimp only; omega, hl4.trans hl5⟩, by dsimp only; omega⟩
          · (repeat (first | refine W_seq ?_))
            refine W_region rfl ?_
            refine WL_is (X_move rfl rfl) rfl rfl rfl ?_
            refine WL_is (X_lss_f rfl rfl rfl (by omega)) rfl rfl rfl ?_
            (repeat (first | refine WL_nil ?_ | refine Then_normal ?_ | refine W_exit ?_ | refine Then_exit ?_ | refine inBlk_normal ?_ | refine inBlk_here ?_ | refine W_false rfl ?_))
            skip
            refine W_region rfl ?_
            refine WL_is (X_move rfl rfl) rfl rfl rfl ?_
            refine WL_is (X_addW rfl rfl rfl (by exact wrap_i64_in (by omega) (by omega))) rfl rfl rfl ?_
            refine WL_is (X_assign rfl rfl) rfl rfl rfl ?_
            (repeat (first | refine WL_nil ?_ | refine Then_normal ?_))
            exact ⟨⟨k + 1, s', F', la', h4⟩, ⟨(by repeat (first | exact SubE_nil | refine SubE_cons rfl ?_)), rfl, SubR.refl _, rfl⟩, ⟨by dsimp only; omega, hI, hn', (hl2.trans hl3).trans hl4⟩, by dsimp only; omega⟩
      · have hlen8 := hs.ok.len
        have hF301 := hs.len
        (repeat (first | refine W_seq ?_))
        refine W_region rfl ?_
        refine WL_is (X_move rfl rfl) rfl rfl rfl ?_
        refine WL_is (X_move rfl rfl) rfl rfl rfl ?_
        refine WL_is (X_len_sl rfl rfl rfl (by assumption)) rfl rfl rfl ?_
        refine WL_is (X_lss_f rfl rfl rfl (by omega)) rfl rfl rfl ?_
        (repeat (first | refine WL_nil ?_ | refine Then_normal ?_ | refine W_seq ?_ | refine W_exit ?_ | refine Then_exit ?_ | refine inBlk_here ?_ | refine W_false rfl ?_))
        skip
        refine W_region rfl ?_
        refine WL_is (X_assign rfl rfl) rfl rfl rfl ?_
        (repeat (first | refine WL_nil ?_ | refine Then_normal ?_ | refine W_block ?_))
        refine W_loop (X := QX) (L := fun x => ⟨[(21, .int .i64 (x.k : Int)), (3, .pointer (some ⟨tb, 0, none⟩)), (4, .int .i64 (s.all.length : Int)), (5, .int .i64 (x.la : Int)), (6, .pointer (some ⟨wb, 0, none⟩))], [],
            [blk wb (s.fds.map intv) 28, tabR tb x.s], x.h⟩)
          (p := fun x => x.k ≤ 8 ∧ SInv x.s F x.la ∧ x.s.all = s.all ∧ ∀ j (hj : j < x.s.fds.length) (hj0 : j < s.fds.length), x.s.fds[j] = if j < x.k then 0 else s.fds[j]) (μ := fun x => 8 - x.k) ⟨0, s, F, la, h2⟩ ⟨(by repeat (first | exact SubE_nil | refine SubE_cons rfl ?_)), rfl, SubR.skip _ (SubR.refl _), rfl⟩ ⟨Nat.zero_le _, hs, rfl, fun j hj hj0 => by simp⟩ ?_
        rintro ⟨i, s', F', la', h3⟩ ⟨hi8, hI, hall, hz⟩
        dsimp only at hi8 hI hall hz ⊢
        have hlen8' := hI.ok.len
        have hcn := hI.cnt
        have hall' : s'.all.length = s.all.length := by rw [hall]
        rw [hall] at hcn
        by_cases hi : i < 8
        · have hil0 : i < s.fds.length := by omega
          have hil : i < s'.fds.length := by omega
          have hvi : (s.fds.map intv)[i]? = some (.int .i64 (s.fds[i] : Int)) := by rw [List.getElem?_map, List.getElem?_eq_getElem hil0]; rfl
          have hii : s'.fds[i] = s.fds[i] := by rw [hz i hil hil0, if_neg (by omega)]
          have hki : s'.fds[i] ≤ s'.all.length := hI.ok.le _ (List.getElem_mem hil)
          have hai := atF_nat hlen8' hil
          have c1 := close_fn h3 tb s' i hI.ok
          unfold DS.err at c1
          rw [hai] at c1
          (repeat (first | refine W_seq ?_))
          refine W_region rfl ?_
          refine WL_is (X_move rfl rfl) rfl rfl rfl ?_
          refine WL_is (X_lss_t rfl rfl rfl (by omega)) rfl rfl rfl ?_
          (repeat (first | refine WL_nil ?_ | refine Then_normal ?_ | refine W_seq ?_ | refine W_skip ?_ | refine W_block ?_ | refine W_true rfl ?_))
          skip
          refine W_region rfl ?_
          refine WL_is (X_move rfl rfl) rfl rfl rfl ?_
          refine WL_is (X_move rfl rfl) rfl rfl rfl ?_
          by_cases h0 : s'.fds[i] = 0
          · simp only [if_pos h0] at c1
            have he : s'.close i = s' := by unfold DS.close; rw [hai, if_pos h0]
            have hlf : s'.last i = false := by unfold DS.last; rw [hai, if_pos h0]
            rw [he, hlf] at c1
            rw [← hii, h0] at hvi
            refine WL_callR [_] _ rfl rfl rfl Try.func15 rfl rfl rfl rfl (perm_front 1 rfl) (c1) ?_
            rintro _ _ h5 hl5 ⟨rfl, rfl⟩
            simp only [List.cons_append, List.nil_append, List.eraseIdx_cons_zero]
            simp only [fileV]
            refine WL_is (X_move rfl rfl) rfl rfl rfl ?_
            refine WL_is (X_extract rfl rfl rfl) rfl rfl rfl ?_
            refine WL_is (X_extract rfl rfl rfl) rfl rfl rfl ?_
            refine WL_is (X_extract rfl rfl rfl) rfl rfl rfl ?_
            (refine WL_alloc rfl rfl rfl rfl rfl rfl ?_; intro b_)
            refine WL_store rfl rfl rfl (by exact idx0) rfl rfl rfl rfl rfl rfl rfl rfl rfl ?_
            refine WL_is (X_assign rfl rfl) rfl rfl rfl ?_
            refine WL_is (X_assign rfl rfl) rfl rfl rfl ?_
            (repeat (first | refine WL_nil ?_ | refine Then_normal ?_ | refine W_seq ?_))
            skip
            refine W_region rfl ?_
            refine WL_is (X_move rfl rfl) rfl rfl rfl ?_
            refine WL_is (X_eql_f rfl rfl rfl (by omega)) rfl rfl rfl ?_
            refine WL_is (X_move rfl rfl) rfl rfl rfl ?_
            refine WL_is (X_index_arr (sz := 1) rfl rfl rfl rfl rfl (by omega) (by omega) (by simp only [Nat.zero_add, Int.toNat_natCast, Nat.mul_one] <;> rfl)) rfl rfl rfl ?_
            refine WL_is (X_load1 rfl rfl (by exact idx2) rfl (by assumption)) rfl rfl rfl ?_
            refine WL_is (X_gtr_f rfl rfl rfl (by omega)) rfl rfl rfl ?_
            refine WL_is (X_neB rfl rfl rfl rfl) rfl rfl rfl ?_
            (repeat (first | refine WL_nil ?_ | refine Then_normal ?_ | refine W_seq ?_ | refine W_skip ?_ | refine W_false rfl ?_))
            skip
            refine W_region rfl ?_
            refine WL_is (X_move rfl rfl) rfl rfl rfl ?_
            (repeat (first | refine WL_nil ?_ | refine Then_normal ?_ | refine W_skip ?_ | refine inBlk_normal ?_ | refine W_false rfl ?_))
            skip
            refine W_region rfl ?_
            refine WL_is (X_move rfl rfl) rfl rfl rfl ?_
            refine WL_is (X_addW rfl rfl rfl (by exact wrap_i64_in (by omega) (by omega))) rfl rfl rfl ?_
            refine WL_is (X_assign rfl rfl) rfl rfl rfl ?_
            (repeat (first | refine WL_nil ?_ | refine Then_normal ?_))
            refine ⟨⟨i + 1, s', F', la', h5⟩, ⟨(by repeat (first | exact SubE_nil | refine SubE_cons rfl ?_)), rfl, SubR.skip _ (SubR.of_perm (.swap _ _ _)), rfl⟩, ⟨by dsimp only; omega, hI, hall, fun j hj hj0 => ?_⟩, by dsimp only; omega⟩
            have hzj := hz j hj hj0
            dsimp only
            by_cases hji : j < i
            · rw [hzj, if_pos hji, if_pos (by omega)]
            · by_cases hje : j = i
              · subst hje; rw [if_pos (by omega)]; exact h0
              · rw [hzj, if_neg hji, if_neg (by omega)]
          · simp only [if_neg h0] at c1
            have hfile := hI.file hil h0 (by omega)
            rw [hfile] at c1
            obtain ⟨he, hI2⟩ := hI.close hil h0
            have hzz : ∀ j (hj : j < (s'.fds.set i 0).length) (hj0 : j < s.fds.length), (s'.fds.set i 0)[j] = if j < i + 1 then 0 else s.fds[j] := fun j hj hj0 => by
              rw [List.getElem_set]
              by_cases hje : i = j
              · rw [if_pos hje, if_pos (by omega)]
              · rw [if_neg hje, hz j (by simpa using hj) hj0]
                by_cases hji : j < i
                · rw [if_pos hji, if_pos (by omega)]
                · rw [if_neg hji, if_neg (by omega)]
            rw [he] at c1 hI2
            cases hlast : s'.last i with
            | true =>
              rw [hlast] at c1 hI2
              refine WL_callR [_] _ rfl rfl rfl Try.func15 rfl rfl rfl rfl (perm_front 1 rfl) (c1) ?_
              rintro _ _ h5 hl5 ⟨rfl, rfl⟩
              simp only [List.cons_append, List.nil_append, List.eraseIdx_cons_zero]
              simp only [fileV]
              refine WL_is (X_move rfl rfl) rfl rfl rfl ?_
              refine WL_is (X_extract rfl rfl rfl) rfl rfl rfl ?_
              refine WL_is (X_extract rfl rfl rfl) rfl rfl rfl ?_
              refine WL_is (X_extract rfl rfl rfl) rfl rfl rfl ?_
              (refine WL_alloc rfl rfl rfl rfl rfl rfl ?_; intro b_)
              refine WL_store rfl rfl rfl (by exact idx0) rfl rfl rfl rfl rfl rfl rfl rfl rfl ?_
              refine WL_is (X_assign rfl rfl) rfl rfl rfl ?_
              refine WL_is (X_assign rfl rfl) rfl rfl rfl ?_
              (repeat (first | refine WL_nil ?_ | refine Then_normal ?_ | refine W_seq ?_))
              skip
              refine W_region rfl ?_
              refine WL_is (X_move rfl rfl) rfl rfl rfl ?_
              refine WL_is (X_eql_t rfl rfl rfl (by omega)) rfl rfl rfl ?_
              refine WL_is (X_move rfl rfl) rfl rfl rfl ?_
              refine WL_is (X_index_arr (sz := 1) rfl rfl rfl rfl rfl (by omega) (by omega) (by simp only [Nat.zero_add, Int.toNat_natCast, Nat.mul_one] <;> rfl)) rfl rfl rfl ?_
              refine WL_is (X_load1 rfl rfl (by exact idx2) rfl (by assumption)) rfl rfl rfl ?_
              refine WL_is (X_gtr_t rfl rfl rfl (by omega)) rfl rfl rfl ?_
              refine WL_is (X_neB rfl rfl rfl rfl) rfl rfl rfl ?_
              (repeat (first | refine WL_nil ?_ | refine Then_normal ?_ | refine W_seq ?_ | refine W_skip ?_ | refine W_false rfl ?_))
              skip
              refine W_region rfl ?_
              refine WL_is (X_move rfl rfl) rfl rfl rfl ?_
              (repeat (first | refine WL_nil ?_ | refine Then_normal ?_ | refine W_true rfl ?_))
              skip
              refine W_region rfl ?_
              refine WL_is (X_move rfl rfl) rfl rfl rfl ?_
              refine WL_is (X_addW rfl rfl rfl (by exact wrap_i64_in (by omega) (by omega))) rfl rfl rfl ?_
              refine WL_is (X_assign rfl rfl) rfl rfl rfl ?_
              (repeat (first | refine WL_nil ?_ | refine Then_normal ?_ | refine inBlk_normal ?_))
              skip
              refine W_region rfl ?_
              refine WL_is (X_move rfl rfl) rfl rfl rfl ?_
              refine WL_is (X_addW rfl rfl rfl (by exact wrap_i64_in (by omega) (by omega))) rfl rfl rfl ?_
              refine WL_is (X_assign rfl rfl) rfl rfl rfl ?_
              (repeat (first | refine WL_nil ?_ | refine Then_normal ?_))
              exact ⟨⟨i + 1, _, F', la' + 1, h5⟩, ⟨(by repeat (first | exact SubE_nil | refine SubE_cons rfl ?_)), rfl, SubR.skip _ (SubR.of_perm (.swap _ _ _)), rfl⟩, ⟨by dsimp only; omega, hI2, hall, hzz⟩, by dsimp only; omega⟩
            | false =>
              rw [hlast] at c1 hI2
              refine WL_callR [_] _ rfl rfl rfl Try.func15 rfl rfl rfl rfl (perm_front 1 rfl) (c1) ?_
              rintro _ _ h5 hl5 ⟨rfl, rfl⟩
              simp only [List.cons_append, List.nil_append, List.eraseIdx_cons_zero]
              simp only [fileV]
              refine WL_is (X_move rfl rfl) rfl rfl rfl ?_
              refine WL_is (X_extract rfl rfl rfl) rfl rfl rfl ?_
              refine WL_is (X_extract rfl rfl rfl) rfl rfl rfl ?_
              refine WL_is (X_extract rfl rfl rfl) rfl rfl rfl ?_
              (refine WL_alloc rfl rfl rfl rfl rfl rfl ?_; intro b_)
              refine WL_store rfl rfl rfl (by exact idx0) rfl rfl rfl rfl rfl rfl rfl rfl rfl ?_
              refine WL_is (X_assign rfl rfl) rfl rfl rfl ?_
              refine WL_is (X_assign rfl rfl) rfl rfl rfl ?_
              (repeat (first | refine WL_nil ?_ | refine Then_normal ?_ | refine W_seq ?_))
              skip
              refine W_region rfl ?_
              refine WL_is (X_move rfl rfl) rfl rfl rfl ?_
              refine WL_is (X_eql_t rfl rfl rfl (by omega)) rfl rfl rfl ?_
              refine WL_is (X_move rfl rfl) rfl rfl rfl ?_
              refine WL_is (X_index_arr (sz := 1) rfl rfl rfl rfl rfl (by omega) (by omega) (by simp only [Nat.zero_add, Int.toNat_natCast, Nat.mul_one] <;> rfl)) rfl rfl rfl ?_
              refine WL_is (X_load1 rfl rfl (by exact idx2) rfl (by assumption)) rfl rfl rfl ?_
              refine WL_is (X_gtr_t rfl rfl rfl (by omega)) rfl rfl rfl ?_
              refine WL_is (X_neB rfl rfl rfl rfl) rfl rfl rfl ?_
              (repeat (first | refine WL_nil ?_ | refine Then_normal ?_ | refine W_seq ?_ | refine W_skip ?_ | refine W_false rfl ?_))
              skip
              refine W_region rfl ?_
              refine WL_is (X_move rfl rfl) rfl rfl rfl ?_
              (repeat (first | refine WL_nil ?_ | refine Then_normal ?_ | refine W_skip ?_ | refine inBlk_normal ?_ | refine W_false rfl ?_))
              skip
              refine W_region rfl ?_
              refine WL_is (X_move rfl rfl) rfl rfl rfl ?_
              refine WL_is (X_addW rfl rfl rfl (by exact wrap_i64_in (by omega) (by omega))) rfl rfl rfl ?_
              refine WL_is (X_assign rfl rfl) rfl rfl rfl ?_
              (repeat (first | refine WL_nil ?_ | refine Then_normal ?_))
              exact ⟨⟨i + 1, _, F', la', h5⟩, ⟨(by repeat (first | exact SubE_nil | refine SubE_cons rfl ?_)), rfl, SubR.skip _ (SubR.of_perm (.swap _ _ _)), rfl⟩, ⟨by dsimp only; omega, hI2, hall, hzz⟩, by dsimp only; omega⟩
        · have hnone : ∀ k ∈ s'.fds, k = 0 := fun x hx => by
            obtain ⟨j, hj, e⟩ := List.getElem_of_mem hx
            rw [← e, hz j hj (by omega), if_pos (by omega)]
          rw [cnt_none hnone, Nat.add_zero] at hcn
          subst hcn
          have hlst := list_fn h3 tb s' hI.ok
          rw [lst_none hnone] at hlst
          (repeat (first | refine W_seq ?_))
          refine W_region rfl ?_
          refine WL_is (X_move rfl rfl) rfl rfl rfl ?_
          refine WL_is (X_lss_f rfl rfl rfl (by omega)) rfl rfl rfl ?_
          (repeat (first | refine WL_nil ?_ | refine Then_normal ?_ | refine W_seq ?_ | refine W_exit ?_ | refine Then_exit ?_ | refine inBlk_here ?_ | refine W_false rfl ?_))
          skip
          refine W_region rfl ?_
          refine WL_is (X_move rfl rfl) rfl rfl rfl ?_
          refine WL_is (X_move rfl rfl) rfl rfl rfl ?_
          refine WL_is (X_eql_t rfl rfl rfl (by omega)) rfl rfl rfl ?_
          refine WL_is (X_move rfl rfl) rfl rfl rfl ?_
          refine WL_is (X_move rfl rfl) rfl rfl rfl ?_
          try refine WL_off rfl rfl rfl ?_
          refine WL_callR [_] _ rfl rfl rfl Try.func20 rfl rfl rfl rfl (perm_front 1 rfl) hlst ?_
          rintro r _ h4 hl4 ⟨hr, rfl⟩
          obtain ⟨ra, rc, rfl⟩ := hr.shape
          simp only [List.cons_append, List.nil_append, List.eraseIdx_cons_zero, List.length_nil]
          have al4 := alive_fn h4
          refine WL_is (X_len_sl rfl rfl rfl (by assumption)) rfl rfl rfl ?_
          refine WL_is (X_eql rfl rfl rfl) rfl rfl rfl ?_
          refine WL_is (X_pick_t rfl rfl rfl) rfl rfl rfl ?_
          refine WL_is (X_move rfl rfl) rfl rfl rfl ?_
          refine WL_is (X_callv rfl rfl rfl Try.func7 rfl (by assumption)) rfl rfl rfl ?_
          refine WL_is (X_pick_t rfl rfl rfl) rfl rfl rfl ?_
          refine WL_is (X_assign rfl rfl) rfl rfl rfl ?_
          (repeat (first | refine WL_nil ?_ | refine Then_normal ?_ | refine W_ret ?_))
          refine Body_end rfl rfl rfl (SubR.none _) ?_
          rfl
end Go.Proofs.Ytmicilnmphkpmaa
