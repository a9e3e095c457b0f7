/- Files: cut off, by the document. -/
import Derived.Test.YtoocbfpomamdeaaFileI
namespace Go.Proofs.Ytoocbfpomamdeaa
set_option maxRecDepth 4000
open Go Go.Par PH
def tailK (m : List Int) (z k : Nat) : Pc := if z / 256 < k then tailT m (z : Int) else pc0
theorem leftK_low {m : List Int} {w k : Nat} (h : k < w) : leftK m w (k + 1 - w) = leftK m w (k - w) ∧ goneK m w (k + 1 - w) = goneK m w (k - w) := by
  rw [show k + 1 - w = k - w from by omega]; exact ⟨rfl, rfl⟩
theorem tailK_same {m : List Int} {z k : Nat} (h : z / 256 = k → tailT m (z : Int) = pc0) : tailK m z (k + 1) = tailK m z k := by
  unfold tailK
  by_cases h1 : z / 256 < k
  · rw [if_pos h1, if_pos (by omega)]
  · rw [if_neg h1]
    by_cases h2 : z / 256 = k
    · rw [if_pos (by omega), h h2]
    · rw [if_neg (by omega)]
theorem tailT_get {m : List Int} {z k : Nat} (hk : k < m.length) (h : z / 256 = k) : tailT m (z : Int) = if 0 < z % 256 ∧ ¬ m[k] = 0 then (m[k], ((z % 256 / 8 : Nat) : Int), ((z % 256 % 8 : Nat) : Int), ⟨#[]⟩) else pc0 := by
  have e : ((z : Int) / 256).toNat = k := by omega
  unfold tailT
  rw [e, List.getElem?_eq_getElem hk]
  simp only [Option.getD_some]
  by_cases hc : 0 < z % 256 ∧ ¬ m[k] = 0
  · rw [if_pos hc, if_pos ⟨by omega, hc.2⟩]
    simp
  · rw [if_neg hc, if_neg (fun hh => hc ⟨by omega, hh.2⟩)]
theorem step_zero {m : List Int} {w z k : Nat} (hm : m.length = 32) (hk : k < 32) (h0 : m[k]'(by omega) = 0) :
    leftK m w (k + 1 - w) = leftK m w (k - w) ∧ goneK m w (k + 1 - w) = goneK m w (k - w) ∧ tailK m z (k + 1) = tailK m z k := by
  have ht : tailK m z (k + 1) = tailK m z k := tailK_same fun hz => by rw [tailT_get (by omega) hz, if_neg (fun hh => hh.2 h0)]
  by_cases hw : k < w
  · exact ⟨(leftK_low hw).1, (leftK_low hw).2, ht⟩
  · obtain ⟨j, rfl⟩ : ∃ j, k = w + j := ⟨k - w, by omega⟩
    rw [show w + j + 1 - w = j + 1 from by omega, show w + j - w = j from by omega]
    refine ⟨(leftK_same hm hk h0).symm, ?_, ht⟩
    rw [goneK_succ hm hk, if_pos h0, List.append_nil]
theorem step_gone {m : List Int} {w z k : Nat} (hm : m.length = 32) (hk : k < 32) (h0 : ¬ m[k]'(by omega) = 0) (hw : w = (z + 255) / 256) (h : z ≤ k * 256) :
    (leftK m w (k - w)).set k 0 = leftK m w (k + 1 - w) ∧ goneK m w (k - w) ++ [m[k]'(by omega)] = goneK m w (k + 1 - w) ∧ tailK m z (k + 1) = tailK m z k := by
  have ht : tailK m z (k + 1) = tailK m z k := tailK_same fun hz => by rw [tailT_get (by omega) hz, if_neg (fun hh => by omega)]
  obtain ⟨j, rfl⟩ : ∃ j, k = w + j := ⟨k - w, by omega⟩
  rw [show w + j + 1 - w = j + 1 from by omega, show w + j - w = j from by omega]
  refine ⟨leftK_set hm hk, ?_, ht⟩
  rw [goneK_succ hm hk, if_neg h0]
structure RX where
  k : Nat
  g : Value
  h : PH
attribute [local irreducible] W WL Does Exec Body Then inBlk RG WR row obj pblk
set_option maxHeartbeats 4000000 in
theorem cut_ref (h : PH) (m : List Int) (v : Value) (size : Int) (hv : Sl encI 1 h v m) (hl : m.length ≤ 1000000) : Does Try.prog 17 [v, .int .i64 size] [] h (Ret (CutA m size)) := by
  have hm := may_ref h m v hv (by omega)
  refine Does_of_W Try.func17 rfl (n := 72) rfl rfl (by simp only [argE, Nat.reduceAdd] <;> rfl) ?_
  by_cases hbad : cutE m size = 2
  · have hx : mayM m = false ∨ (mayM m = true ∧ (size < 0 ∨ (¬ size < 0 ∧ size > 8192))) := by
      unfold cutE at hbad
      split at hbad
      · rename_i h1
        cases hM : mayM m with
        | false => exact .inl rfl
        | true => rw [hM] at h1; refine .inr ⟨rfl, ?_⟩; rcases h1 with h1 | h1 | h1 <;> first | cases h1 | omega
      · cases hbad
    (repeat (first | refine W_seq ?_))
    refine W_region rfl ?_
    refine WL_is (X_assign rfl rfl) rfl rfl rfl ?_
    refine WL_is (X_assign rfl rfl) rfl rfl rfl ?_
    (refine WL_alloc rfl rfl rfl rfl rfl rfl ?_; intro b_)
    refine WL_is (X_assign rfl rfl) rfl rfl rfl ?_
    (repeat (first | refine WL_nil ?_ | refine Then_normal ?_ | refine W_seq ?_))
    rcases hx with hM | ⟨hM, h1 | ⟨h1, h2⟩⟩
    · rw [hM] at hm
      skip
      refine W_region rfl ?_
      refine WL_is (X_move rfl rfl) rfl rfl rfl ?_
      refine WL_is (X_callv rfl rfl rfl Try.func25 rfl (by assumption)) rfl rfl rfl ?_
      refine WL_is (X_not rfl rfl) rfl rfl rfl ?_
      refine WL_is (X_move rfl rfl) rfl rfl rfl ?_
      refine WL_off rfl rfl rfl ?_
      refine WL_off rfl rfl rfl ?_
      refine WL_is (X_pick_t rfl rfl rfl) rfl rfl rfl ?_
      refine WL_is (X_move rfl rfl) rfl rfl rfl ?_
      refine WL_off rfl rfl rfl ?_
      refine WL_off rfl rfl rfl ?_
      refine WL_is (X_pick_t rfl rfl rfl) rfl rfl rfl ?_
      (repeat (first | refine WL_nil ?_ | refine Then_normal ?_ | refine W_seq ?_ | refine W_true rfl ?_))
      skip
      refine W_region rfl ?_
      refine WL_is (X_build rfl rfl rfl) rfl rfl rfl ?_
      refine WL_is (X_assign rfl rfl) rfl rfl rfl ?_
      refine WL_is (X_assign rfl rfl) rfl rfl rfl ?_
      refine WL_store rfl rfl rfl (by exact idx0) rfl rfl rfl rfl rfl rfl rfl rfl rfl ?_
      refine WL_is (X_assign rfl rfl) rfl rfl rfl ?_
      (repeat (first | refine WL_nil ?_ | refine Then_normal ?_ | refine W_ret ?_ | refine Then_ret ?_))
      refine Body_vals (.cons (.tmp rfl) (.cons (.tmp rfl) (.cons (.cellA rfl (by exact idx0) rfl rfl rfl) (.cons (.tmp rfl) .nil)))) rfl ?_
      exact UpdE.sub (R1 := []) (SubR.none _) (CutA.bad hbad)
    · rw [hM] at hm
      skip
      refine W_region rfl ?_
      refine WL_is (X_move rfl rfl) rfl rfl rfl ?_
      refine WL_is (X_callv rfl rfl rfl Try.func25 rfl (by assumption)) rfl rfl rfl ?_
      refine WL_is (X_not rfl rfl) rfl rfl rfl ?_
      refine WL_is (X_move rfl rfl) rfl rfl rfl ?_
      refine WL_is (X_move rfl rfl) rfl rfl rfl ?_
      refine WL_is (X_lss_t rfl rfl rfl (by omega)) rfl rfl rfl ?_
      refine WL_is (X_pick_f rfl rfl rfl) rfl rfl rfl ?_
      refine WL_is (X_move rfl rfl) rfl rfl rfl ?_
      refine WL_off rfl rfl rfl ?_
      refine WL_off rfl rfl rfl ?_
      refine WL_is (X_pick_t rfl rfl rfl) rfl rfl rfl ?_
      (repeat (first | refine WL_nil ?_ | refine Then_normal ?_ | refine W_seq ?_ | refine W_true rfl ?_))
      skip
      refine W_region rfl ?_
      refine WL_is (X_build rfl rfl rfl) rfl rfl rfl ?_
      refine WL_is (X_assign rfl rfl) rfl rfl rfl ?_
      refine WL_is (X_assign rfl rfl) rfl rfl rfl ?_
      refine WL_store rfl rfl rfl (by exact idx0) rfl rfl rfl rfl rfl rfl rfl rfl rfl ?_
      refine WL_is (X_assign rfl rfl) rfl rfl rfl ?_
      (repeat (first | refine WL_nil ?_ | refine Then_normal ?_ | refine W_ret ?_ | refine Then_ret ?_))
      refine Body_vals (.cons (.tmp rfl) (.cons (.tmp rfl) (.cons (.cellA rfl (by exact idx0) rfl rfl rfl) (.cons (.tmp rfl) .nil)))) rfl ?_
      exact UpdE.sub (R1 := []) (SubR.none _) (CutA.bad hbad)
    · rw [hM] at hm
      skip
      refine W_region rfl ?_
      refine WL_is (X_move rfl rfl) rfl rfl rfl ?_
      refine WL_is (X_callv rfl rfl rfl Try.func25 rfl (by assumption)) rfl rfl rfl ?_
      refine WL_is (X_not rfl rfl) rfl rfl rfl ?_
      refine WL_is (X_move rfl rfl) rfl rfl rfl ?_
      refine WL_is (X_move rfl rfl) rfl rfl rfl ?_
      refine WL_is (X_lss_f rfl rfl rfl (by omega)) rfl rfl rfl ?_
      refine WL_is (X_pick_f rfl rfl rfl) rfl rfl rfl ?_
      refine WL_is (X_move rfl rfl) rfl rfl rfl ?_
      refine WL_is (X_move rfl rfl) rfl rfl rfl ?_
      refine WL_is (X_gtr_t rfl rfl rfl (by omega)) rfl rfl rfl ?_
      refine WL_is (X_pick_f rfl rfl rfl) rfl rfl rfl ?_
      (repeat (first | refine WL_nil ?_ | refine Then_normal ?_ | refine W_seq ?_ | refine W_true rfl ?_))
      skip
      refine W_region rfl ?_
      refine WL_is (X_build rfl rfl rfl) rfl rfl rfl ?_
      refine WL_is (X_assign rfl rfl) rfl rfl rfl ?_
      refine WL_is (X_assign rfl rfl) rfl rfl rfl ?_
      refine WL_store rfl rfl rfl (by exact idx0) rfl rfl rfl rfl rfl rfl rfl rfl rfl ?_
      refine WL_is (X_assign rfl rfl) rfl rfl rfl ?_
      (repeat (first | refine WL_nil ?_ | refine Then_normal ?_ | refine W_ret ?_ | refine Then_ret ?_))
      refine Body_vals (.cons (.tmp rfl) (.cons (.tmp rfl) (.cons (.cellA rfl (by exact idx0) rfl rfl rfl) (.cons (.tmp rfl) .nil)))) rfl ?_
      exact UpdE.sub (R1 := []) (SubR.none _) (CutA.bad hbad)
  · have hM : mayM m = true := by
      cases hM : mayM m with
      | true => rfl
      | false => exact absurd (by simp [cutE, hM]) hbad
    have h1 : ¬ size < 0 := fun hh => hbad (by simp [cutE, hh])
    have h2 : ¬ size > 8192 := fun hh => hbad (by simp [cutE, hh])
    have he : cutE m size = 0 := by unfold cutE; rw [if_neg]; rintro (hh | hh | hh) <;> first | (rw [hM] at hh; cases hh) | omega
    have hml := mayM_len hM
    rw [hM] at hm
    obtain ⟨z, rfl⟩ := Int.eq_ofNat_of_zero_le (by omega : 0 ≤ size)
    have hsz : (stayN (z : Int)) = (z + 255) / 256 := by unfold stayN; rw [Int.toNat_natCast]
    have hgt : ((z : Int) / 256).toNat = z / 256 := by omega
    (repeat (first | refine W_seq ?_))
    refine W_region rfl ?_
    refine WL_is (X_assign rfl rfl) rfl rfl rfl ?_
    refine WL_is (X_assign rfl rfl) rfl rfl rfl ?_
    (refine WL_alloc rfl rfl rfl rfl rfl rfl ?_; intro b_)
    refine WL_is (X_assign rfl rfl) rfl rfl rfl ?_
    (repeat (first | refine WL_nil ?_ | refine Then_normal ?_ | refine W_seq ?_))
    generalize b_ = tb
    skip
    refine W_region rfl ?_
    refine WL_is (X_move rfl rfl) rfl rfl rfl ?_
    refine WL_is (X_callv rfl rfl rfl Try.func25 rfl (by assumption)) rfl rfl rfl ?_
    refine WL_is (X_not rfl rfl) rfl rfl rfl ?_
    refine WL_is (X_move rfl rfl) rfl rfl rfl ?_
    refine WL_is (X_move rfl rfl) rfl rfl rfl ?_
    refine WL_is (X_lss_f rfl rfl rfl (by omega)) rfl rfl rfl ?_
    refine WL_is (X_pick_f rfl rfl rfl) rfl rfl rfl ?_
    refine WL_is (X_move rfl rfl) rfl rfl rfl ?_
    refine WL_is (X_move rfl rfl) rfl rfl rfl ?_
    refine WL_is (X_gtr_f rfl rfl rfl (by omega)) rfl rfl rfl ?_
    refine WL_is (X_pick_f rfl rfl rfl) rfl rfl rfl ?_
    (repeat (first | refine WL_nil ?_ | refine Then_normal ?_ | refine W_seq ?_ | refine W_skip ?_ | refine W_false rfl ?_))
    skip
    refine W_region rfl ?_
    refine WL_is (X_move rfl rfl) rfl rfl rfl ?_
    refine WL_append_nil (enc := encI) rfl rfl rfl elemI rfl (Src.sl hv) (flatI m) (by omega) (by omega) rfl rfl rfl ?_
    intro v'
    refine WL_updE (UpdE.shapeL 0 rfl) ?_
    rintro _ h2 - ⟨rfl, rfl, a, cap, rfl⟩
    refine WL_updE (UpdE.shapePos 0 rfl (by omega)) ?_
    rintro _ h2 - ⟨rfl, rfl, rb, rfl⟩
    refine WL_is (X_assign rfl rfl) rfl rfl rfl ?_
    (repeat (first | refine WL_nil ?_ | refine Then_normal ?_ | refine W_seq ?_))
    skip
    refine W_region rfl ?_
    refine WL_is (X_assign rfl rfl) rfl rfl rfl ?_
    (repeat (first | refine WL_nil ?_ | refine Then_normal ?_ | refine W_seq ?_))
    skip
    refine W_region rfl ?_
    refine WL_is (X_build rfl rfl rfl) rfl rfl rfl ?_
    (refine WL_alloc rfl rfl rfl rfl rfl rfl ?_; intro b_)
    refine WL_store rfl rfl rfl (by exact idx0) rfl rfl rfl rfl rfl rfl rfl rfl rfl ?_
    (repeat (first | refine WL_nil ?_ | refine Then_normal ?_ | refine W_seq ?_))
    generalize b_ = tb2
    have hfin : ∀ (g : Value) (h3 : PH), UpdE [rowL encI (.slice (some ⟨rb, 0, none⟩) m.length cap) 3 1 (leftK m (stayN (z : Int)) (32 - stayN (z : Int))), rowL encI g 3 1 (goneK m (stayN (z : Int)) (32 - stayN (z : Int))), blk tb (encP (tailT m (z : Int))) 32, blk tb2 (encP (tailT m (z : Int))) 32] h3
        (CutA m (z : Int) (.tuple #[.slice (some ⟨rb, 0, none⟩) m.length cap, g, pcV (tailT m (z : Int)), .int .i64 0])) := fun g h3 => by
      refine (UpdE.row 0 rfl (lenI _)).then ?_
      rintro _ h4 hl4 ⟨rfl, s1⟩
      simp only [List.eraseIdx_cons_zero]
      refine (UpdE.row 0 rfl (lenI _)).then ?_
      rintro _ h5 hl5 ⟨rfl, s2⟩
      simp only [List.eraseIdx_cons_zero]
      refine UpdE.sub (R1 := []) (SubR.none _) ⟨rfl, .slice (some ⟨rb, 0, none⟩) m.length cap, g, ?_, ?_, ?_⟩
      · unfold tailC; rw [he, if_pos rfl]
      · unfold leftC; rw [if_pos he]; exact s1.mono hl5
      · unfold goneC; rw [if_pos he]; exact s2
    generalize hw : stayN (z : Int) = w at hsz hfin ⊢
    have hg0 : goneK m w 0 = [] := by simp [goneK]
    skip
    refine W_upd (Upd.nilrow (e := 3) (sz := 1)) ?_
    skip
    refine W_region rfl ?_
    refine WL_is (X_assign rfl rfl) rfl rfl rfl ?_
    (repeat (first | refine WL_nil ?_ | refine Then_normal ?_ | refine W_block ?_))
    refine W_loop (X := RX) (L := fun x => ⟨[(11, .int .i64 (x.k : Int)), (8, .slice (some ⟨rb, 0, none⟩) m.length cap), (9, x.g), (10, .pointer (some ⟨tb2, 0, none⟩)), (6, .pointer (some ⟨tb, 0, none⟩)), (0, v), (1, .int .i64 (z : Int))], [],
        [rowL encI (.slice (some ⟨rb, 0, none⟩) m.length cap) 3 1 (leftK m w (x.k - w)), rowL encI x.g 3 1 (goneK m w (x.k - w)), blk tb (encP pc0) 32, blk tb2 (encP (tailK m z x.k)) 32], x.h⟩) (p := fun x => x.k ≤ 32 ∧ le h2 x.h) (μ := fun x => 32 - x.k) ⟨0, .slice none 0 0, h2⟩ ⟨(by repeat (first | exact SubE_nil | refine SubE_cons rfl ?_)), rfl, ?_, rfl⟩ ⟨Nat.zero_le _, le.refl _⟩ ?_
    · dsimp only
      rw [Nat.zero_sub, leftK_zero, hg0]
      have ht0 : tailK m z 0 = pc0 := if_neg (by omega)
      rw [ht0]
      exact SubR.of_perm ((perm_front 2 rfl).trans (List.Perm.cons _ (List.Perm.cons _ (List.Perm.swap _ _ _))))
    · rintro ⟨k, g, h3⟩ ⟨hk, hle⟩
      dsimp only at hk hle ⊢
      have hv := hv.mono hle
      by_cases hlt : (k : Int) < 32
      · have hk32 : k < 32 := by omega
        have hkm : k < m.length := by omega
        have hll := leftK_len (m := m) (w := w) (k := k - w) hml
        have hgl := goneK_len (m := m) (w := w) (k := k - w)
        by_cases hz : m[k] = 0
        · obtain ⟨s1, s2, s3⟩ := step_zero (w := w) (z := z) hml hk32 hz
          (repeat (first | refine W_seq ?_))
          refine W_region rfl ?_
          refine WL_is (X_move rfl rfl) rfl rfl rfl ?_
          refine WL_is (X_lss_t rfl rfl rfl (by omega)) rfl rfl rfl ?_
          (repeat (first | refine WL_nil ?_ | refine Then_normal ?_ | refine W_seq ?_ | refine W_skip ?_ | refine W_block ?_ | refine W_true rfl ?_))
          skip
          refine W_region rfl ?_
          refine WL_is (X_move rfl rfl) rfl rfl rfl ?_
          refine WL_is (X_mulW rfl rfl rfl (by exact wrap_i64_in (by omega) (by omega))) rfl rfl rfl ?_
          refine WL_is (X_assign rfl rfl) rfl rfl rfl ?_
          (repeat (first | refine WL_nil ?_ | refine Then_normal ?_ | refine W_seq ?_))
          skip
          refine W_region rfl ?_
          refine WL_is (X_move rfl rfl) rfl rfl rfl ?_
          refine WL_is (X_move rfl rfl) rfl rfl rfl ?_
          (refine WL_index_slN rfl rfl rfl rfl rfl (by assumption) (by omega) rfl rfl rfl ?_; intro p_ hp_)
          refine WL_is (X_load1_at rfl rfl (by assumption) rfl rfl) rfl rfl rfl ?_
          refine WL_is (X_eql_t rfl rfl rfl (by omega)) rfl rfl rfl ?_
          (repeat (first | refine WL_nil ?_ | refine Then_normal ?_ | refine W_exit ?_ | refine Then_exit ?_ | refine inBlk_here ?_ | refine W_true rfl ?_))
          skip
          refine W_region rfl ?_
          refine WL_is (X_move rfl rfl) rfl rfl rfl ?_
          refine WL_is (X_addW rfl rfl rfl (by exact wrap_i64_in (by omega) (by omega))) rfl rfl rfl ?_
          refine WL_is (X_assign rfl rfl) rfl rfl rfl ?_
          (repeat (first | refine WL_nil ?_ | refine Then_normal ?_))
          refine ⟨⟨k + 1, g, h3⟩, ⟨(by repeat (first | exact SubE_nil | refine SubE_cons rfl ?_)), rfl, ?_, rfl⟩, ⟨by dsimp only; omega, hle⟩, by dsimp only; omega⟩
          dsimp only
          rw [s1, s2, s3]; exact SubR.refl _
        · by_cases hge : (k : Int) * 256 ≥ (z : Int)
          · obtain ⟨s1, s2, s3⟩ := step_gone (w := w) hml hk32 hz hsz (by omega)
            have hll2 : (leftK m w (k - w)).length = 32 := hll (by omega)
            (repeat (first | refine W_seq ?_))
            refine W_region rfl ?_
            refine WL_is (X_move rfl rfl) rfl rfl rfl ?_
            refine WL_is (X_lss_t rfl rfl rfl (by omega)) rfl rfl rfl ?_
            (repeat (first | refine WL_nil ?_ | refine Then_normal ?_ | refine W_seq ?_ | refine W_skip ?_ | refine W_block ?_ | refine W_true rfl ?_))
            skip
            refine W_region rfl ?_
            refine WL_is (X_move rfl rfl) rfl rfl rfl ?_
            refine WL_is (X_mulW rfl rfl rfl (by exact wrap_i64_in (by omega) (by omega))) rfl rfl rfl ?_
            refine WL_is (X_assign rfl rfl) rfl rfl rfl ?_
            (repeat (first | refine WL_nil ?_ | refine Then_normal ?_ | refine W_seq ?_))
            skip
            refine W_region rfl ?_
            refine WL_is (X_move rfl rfl) rfl rfl rfl ?_
            refine WL_is (X_move rfl rfl) rfl rfl rfl ?_
            (refine WL_index_slN rfl rfl rfl rfl rfl (by assumption) (by omega) rfl rfl rfl ?_; intro p_ hp_)
            refine WL_is (X_load1_at rfl rfl (by assumption) rfl rfl) rfl rfl rfl ?_
            refine WL_is (X_eql_f rfl rfl rfl (by omega)) rfl rfl rfl ?_
            (repeat (first | refine WL_nil ?_ | refine Then_normal ?_ | refine W_seq ?_ | refine W_skip ?_ | refine W_false rfl ?_))
            skip
            refine W_region rfl ?_
            refine WL_is (X_move rfl rfl) rfl rfl rfl ?_
            refine WL_is (X_move rfl rfl) rfl rfl rfl ?_
            refine WL_is (X_geq_t rfl rfl rfl (by omega)) rfl rfl rfl ?_
            (repeat (first | refine WL_nil ?_ | refine Then_normal ?_ | refine W_seq ?_ | refine W_true rfl ?_))
            skip
            refine W_region rfl ?_
            refine WL_is (X_move rfl rfl) rfl rfl rfl ?_
            refine WL_is (X_move rfl rfl) rfl rfl rfl ?_
            refine WL_is (X_move rfl rfl) rfl rfl rfl ?_
            (refine WL_index_slN rfl rfl rfl rfl rfl (by assumption) (by omega) rfl rfl rfl ?_; intro p_ hp_)
            refine WL_is (X_load1_at rfl rfl (by assumption) rfl rfl) rfl rfl rfl ?_
            refine WL_buildSl (enc := encI) [m[k]] (lenI _) rfl rfl rfl rfl rfl rfl rfl rfl rfl rfl rfl rfl rfl rfl rfl ?_
            intro u h4 hle4 hu
            refine WL_append (enc := encI) (i := 1) rfl rfl rfl elemI rfl rfl (Src.sl hu) (flatI _) (by simp only [List.length_cons, List.length_nil]; omega) (by simp only [List.length_cons, List.length_nil]; omega) rfl rfl rfl ?_
            intro g2
            simp only [List.set_cons_zero, List.set_cons_succ]
            rw [s2]
            refine WL_is (X_assign rfl rfl) rfl rfl rfl ?_
            (repeat (first | refine WL_nil ?_ | refine Then_normal ?_))
            skip
            refine W_region rfl ?_
            refine WL_is (X_move rfl rfl) rfl rfl rfl ?_
            refine WL_is (X_move rfl rfl) rfl rfl rfl ?_
            refine WL_is (X_index_row rfl rfl (by exact idx0) rfl rfl rfl (by omega)) rfl rfl rfl ?_
            refine WL_store_spot rfl rfl rfl (by exact idx0) (by omega) rfl rfl rfl rfl rfl (by omega) rfl rfl rfl rfl ?_
            (repeat (first | refine WL_nil ?_ | refine Then_normal ?_ | refine inBlk_normal ?_))
            skip
            refine W_region rfl ?_
            refine WL_is (X_move rfl rfl) rfl rfl rfl ?_
            refine WL_is (X_addW rfl rfl rfl (by exact wrap_i64_in (by omega) (by omega))) rfl rfl rfl ?_
            refine WL_is (X_assign rfl rfl) rfl rfl rfl ?_
            (repeat (first | refine WL_nil ?_ | refine Then_normal ?_))
            refine ⟨⟨k + 1, g2, h4⟩, ⟨(by repeat (first | exact SubE_nil | refine SubE_cons rfl ?_)), rfl, ?_, rfl⟩, ⟨by dsimp only; omega, hle.trans hle4⟩, by dsimp only; omega⟩
            dsimp only
            rw [← s1, s3]; exact SubR.refl _
          · have hkw : k < w := by omega
            obtain ⟨s1, s2⟩ := leftK_low (m := m) hkw
            by_cases hin : (z : Int) < (k : Int) * 256 + 256
            · have hzk : z / 256 = k := by omega
              have s3 : tailK m z (k + 1) = (m[k], ((z : Int) - (k : Int) * 256) / 8, ((z : Int) - (k : Int) * 256) % 8, ⟨#[]⟩) := by
                unfold tailK
                rw [if_pos (by omega), tailT_get hkm hzk, if_pos ⟨by omega, hz⟩]
                simp only [Prod.mk.injEq, true_and, and_true]
                exact ⟨by omega, by omega⟩
              (repeat (first | refine W_seq ?_))
              refine W_region rfl ?_
              refine WL_is (X_move rfl rfl) rfl rfl rfl ?_
              refine WL_is (X_lss_t rfl rfl rfl (by omega)) rfl rfl rfl ?_
              (repeat (first | refine WL_nil ?_ | refine Then_normal ?_ | refine W_seq ?_ | refine W_skip ?_ | refine W_block ?_ | refine W_true rfl ?_))
              skip
              refine W_region rfl ?_
              refine WL_is (X_move rfl rfl) rfl rfl rfl ?_
              refine WL_is (X_mulW rfl rfl rfl (by exact wrap_i64_in (by omega) (by omega))) rfl rfl rfl ?_
              refine WL_is (X_assign rfl rfl) rfl rfl rfl ?_
              (repeat (first | refine WL_nil ?_ | refine Then_normal ?_ | refine W_seq ?_))
              skip
              refine W_region rfl ?_
              refine WL_is (X_move rfl rfl) rfl rfl rfl ?_
              refine WL_is (X_move rfl rfl) rfl rfl rfl ?_
              (refine WL_index_slN rfl rfl rfl rfl rfl (by assumption) (by omega) rfl rfl rfl ?_; intro p_ hp_)
              refine WL_is (X_load1_at rfl rfl (by assumption) rfl rfl) rfl rfl rfl ?_
              refine WL_is (X_eql_f rfl rfl rfl (by omega)) rfl rfl rfl ?_
              (repeat (first | refine WL_nil ?_ | refine Then_normal ?_ | refine W_seq ?_ | refine W_skip ?_ | refine W_false rfl ?_))
              skip
              refine W_region rfl ?_
              refine WL_is (X_move rfl rfl) rfl rfl rfl ?_
              refine WL_is (X_move rfl rfl) rfl rfl rfl ?_
              refine WL_is (X_geq_f rfl rfl rfl (by omega)) rfl rfl rfl ?_
              (repeat (first | refine WL_nil ?_ | refine Then_normal ?_ | refine W_seq ?_ | refine W_false rfl ?_))
              skip
              refine W_region rfl ?_
              refine WL_is (X_move rfl rfl) rfl rfl rfl ?_
              refine WL_is (X_move rfl rfl) rfl rfl rfl ?_
              refine WL_is (X_addW rfl rfl rfl (by exact wrap_i64_in (by omega) (by omega))) rfl rfl rfl ?_
              refine WL_is (X_lss_t rfl rfl rfl (by omega)) rfl rfl rfl ?_
              (repeat (first | refine WL_nil ?_ | refine Then_normal ?_ | refine W_seq ?_ | refine W_true rfl ?_))
              skip
              refine W_region rfl ?_
              refine WL_is (X_move rfl rfl) rfl rfl rfl ?_
              refine WL_is (X_move rfl rfl) rfl rfl rfl ?_
              refine WL_is (X_subW rfl rfl rfl (by exact wrap_i64_in (by omega) (by omega))) rfl rfl rfl ?_
              refine WL_is (X_assign rfl rfl) rfl rfl rfl ?_
              (repeat (first | refine WL_nil ?_ | refine Then_normal ?_))
              skip
              refine W_region rfl ?_
              refine WL_is (X_move rfl rfl) rfl rfl rfl ?_
              refine WL_is (X_move rfl rfl) rfl rfl rfl ?_
              (refine WL_index_slN rfl rfl rfl rfl rfl (by assumption) (by omega) rfl rfl rfl ?_; intro p_ hp_)
              refine WL_is (X_load1_at rfl rfl (by assumption) rfl rfl) rfl rfl rfl ?_
              refine WL_is (X_move rfl rfl) rfl rfl rfl ?_
              refine WL_is (X_quoW rfl rfl rfl (by omega) (by omega) (by exact wrap_i64_in (by omega) (by omega))) rfl rfl rfl ?_
              refine WL_is (X_move rfl rfl) rfl rfl rfl ?_
              refine WL_is (X_rem rfl rfl rfl (by omega) (by omega)) rfl rfl rfl ?_
              refine WL_is (X_build rfl rfl rfl) rfl rfl rfl ?_
              refine WL_store rfl rfl rfl (by exact idx3) rfl rfl rfl rfl rfl rfl rfl rfl rfl ?_
              (repeat (first | refine WL_nil ?_ | refine Then_normal ?_ | refine inBlk_normal ?_))
              skip
              refine W_region rfl ?_
              refine WL_is (X_move rfl rfl) rfl rfl rfl ?_
              refine WL_is (X_addW rfl rfl rfl (by exact wrap_i64_in (by omega) (by omega))) rfl rfl rfl ?_
              refine WL_is (X_assign rfl rfl) rfl rfl rfl ?_
              (repeat (first | refine WL_nil ?_ | refine Then_normal ?_))
              refine ⟨⟨k + 1, g, h3⟩, ⟨(by repeat (first | exact SubE_nil | refine SubE_cons rfl ?_)), rfl, ?_, rfl⟩, ⟨by dsimp only; omega, hle⟩, by dsimp only; omega⟩
              dsimp only
              rw [s1, s2, s3]; exact SubR.refl _
            · have s3 : tailK m z (k + 1) = tailK m z k := tailK_same (by omega)
              (repeat (first | refine W_seq ?_))
              refine W_region rfl ?_
              refine WL_is (X_move rfl rfl) rfl rfl rfl ?_
              refine WL_is (X_lss_t rfl rfl rfl (by omega)) rfl rfl rfl ?_
              (repeat (first | refine WL_nil ?_ | refine Then_normal ?_ | refine W_seq ?_ | refine W_skip ?_ | refine W_block ?_ | refine W_true rfl ?_))
              skip
              refine W_region rfl ?_
              refine WL_is (X_move rfl rfl) rfl rfl rfl ?_
              refine WL_is (X_mulW rfl rfl rfl (by exact wrap_i64_in (by omega) (by omega))) rfl rfl rfl ?_
              refine WL_is (X_assign rfl rfl) rfl rfl rfl ?_
              (repeat (first | refine WL_nil ?_ | refine Then_normal ?_ | refine W_seq ?_))
              skip
              refine W_region rfl ?_
              refine WL_is (X_move rfl rfl) rfl rfl rfl ?_
              refine WL_is (X_move rfl rfl) rfl rfl rfl ?_
              (refine WL_index_slN rfl rfl rfl rfl rfl (by assumption) (by omega) rfl rfl rfl ?_; intro p_ hp_)
              refine WL_is (X_load1_at rfl rfl (by assumption) rfl rfl) rfl rfl rfl ?_
              refine WL_is (X_eql_f rfl rfl rfl (by omega)) rfl rfl rfl ?_
              (repeat (first | refine WL_nil ?_ | refine Then_normal ?_ | refine W_seq ?_ | refine W_skip ?_ | refine W_false rfl ?_))
              skip
              refine W_region rfl ?_
              refine WL_is (X_move rfl rfl) rfl rfl rfl ?_
              refine WL_is (X_move rfl rfl) rfl rfl rfl ?_
              refine WL_is (X_geq_f rfl rfl rfl (by omega)) rfl rfl rfl ?_
              (repeat (first | refine WL_nil ?_ | refine Then_normal ?_ | refine W_seq ?_ | refine W_false rfl ?_))
              skip
              refine W_region rfl ?_
              refine WL_is (X_move rfl rfl) rfl rfl rfl ?_
              refine WL_is (X_move rfl rfl) rfl rfl rfl ?_
              refine WL_is (X_addW rfl rfl rfl (by exact wrap_i64_in (by omega) (by omega))) rfl rfl rfl ?_
              refine WL_is (X_lss_f rfl rfl rfl (by omega)) rfl rfl rfl ?_
              (repeat (first | refine WL_nil ?_ | refine Then_normal ?_ | refine W_skip ?_ | refine inBlk_normal ?_ | refine W_false rfl ?_))
              skip
              refine W_region rfl ?_
              refine WL_is (X_move rfl rfl) rfl rfl rfl ?_
              refine WL_is (X_addW rfl rfl rfl (by exact wrap_i64_in (by omega) (by omega))) rfl rfl rfl ?_
              refine WL_is (X_assign rfl rfl) rfl rfl rfl ?_
              (repeat (first | refine WL_nil ?_ | refine Then_normal ?_))
              refine ⟨⟨k + 1, g, h3⟩, ⟨(by repeat (first | exact SubE_nil | refine SubE_cons rfl ?_)), rfl, ?_, rfl⟩, ⟨by dsimp only; omega, hle⟩, by dsimp only; omega⟩
              dsimp only
              rw [s1, s2, s3]; exact SubR.refl _
      · have hke : k = 32 := by omega
        subst hke
        have hgl := hfin g h3
        have htl : tailK m z 32 = tailT m (z : Int) := by
          unfold tailK
          by_cases hc : z / 256 < 32
          · rw [if_pos hc]
          · rw [if_neg hc]; unfold tailT; rw [if_neg (by omega)]
        rw [htl]
        generalize tailT m (z : Int) = tl at hgl ⊢
        obtain ⟨t1, t2, t3, t4⟩ := tl
        (repeat (first | refine W_seq ?_))
        refine W_region rfl ?_
        refine WL_is (X_move rfl rfl) rfl rfl rfl ?_
        refine WL_is (X_lss_f rfl rfl rfl (by omega)) rfl rfl rfl ?_
        (repeat (first | refine WL_nil ?_ | refine Then_normal ?_ | refine W_seq ?_ | refine W_exit ?_ | refine Then_exit ?_ | refine inBlk_here ?_ | refine W_false rfl ?_))
        skip
        refine W_draw0 5 rfl rfl rfl rfl ?_
        refine RG_val rfl rfl (fun _ => rfl) (fun _ => X_move rfl rfl) ?_
        refine RG_val rfl rfl (fun _ => rfl) (fun _ => X_move rfl rfl) ?_
        refine RG_val rfl rfl (fun _ => rfl) (fun _ => X_loadA rfl rfl (by exact idx3) rfl rfl rfl) ?_
        refine RG_val rfl rfl (fun _ => rfl) (fun _ => X_assign rfl rfl) ?_
        refine RG_val rfl rfl (fun _ => rfl) (fun _ => X_assign rfl rfl) ?_
        refine RG_nil ?_
        refine RG_endv rfl (fun vs => by simp only [endE, List.cons_append, List.nil_append] <;> rfl) (fun vs => rfl) ?_
        refine WL_store rfl rfl rfl (by exact idx2) rfl rfl rfl rfl rfl rfl rfl rfl rfl ?_
        refine WL_is (X_assign rfl rfl) rfl rfl rfl ?_
        (repeat (first | refine WL_nil ?_ | refine Then_normal ?_ | refine W_ret ?_))
        exact Body_vals (.cons (.tmp rfl) (.cons (.tmp rfl) (.cons (.cellA rfl idx2 rfl rfl rfl) (.cons (.tmp rfl) .nil)))) rfl hgl
end Go.Proofs.Ytoocbfpomamdeaa
