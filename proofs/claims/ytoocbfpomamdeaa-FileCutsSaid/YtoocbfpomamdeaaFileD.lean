/- Files: which pieces a text is. -/
import Derived.Test.YtoocbfpomamdeaaFileC
namespace Go.Proofs.Ytoocbfpomamdeaa
set_option maxRecDepth 4000
open Go Go.Par PH
def encP (p : Int × Int × Int × ByteArray) : List Value := [.int .i64 p.1, .int .i64 p.2.1, .int .i64 p.2.2.1, .string p.2.2.2]
theorem elemP : ElemT Try.prog 27 32 4 40 := ElemT.mk' rfl rfl
theorem lenP (l : List (Int × Int × Int × ByteArray)) : ∀ x ∈ l, (encP x).length = 4 := fun _ _ => rfl
theorem flatP (l : List (Int × Int × Int × ByteArray)) : ∀ x ∈ l, (encP x).all flat = true := fun _ _ => rfl
/-- The piece that begins so, of the first 'lim' bytes of a text. -/
def pieceP (m : List Int) (off : Nat) (s : ByteArray) (lim j : Nat) : Int × Int × Int × ByteArray :=
  (m[(off + stP off j) / 256]?.getD 0, (((off + stP off j) % 256 / 8 : Nat) : Int), (((off + stP off j) % 8 : Nat) : Int), s.extract (stP off j) (min lim (stP off (j + 1))))
def pcsTo (m : List Int) (off : Nat) (s : ByteArray) (lim j : Nat) : List (Int × Int × Int × ByteArray) := (List.range j).map (pieceP m off s lim)
theorem pcsTo_succ (m : List Int) (off : Nat) (s : ByteArray) (lim j : Nat) : pcsTo m off s lim (j + 1) = pcsTo m off s lim j ++ [pieceP m off s lim j] := by
  unfold pcsTo; rw [List.range_succ, List.map_append]; rfl
theorem pcsTo_len (m : List Int) (off : Nat) (s : ByteArray) (lim j : Nat) : (pcsTo m off s lim j).length = j := by simp [pcsTo]
def pcE (m : List Int) (off : Int) (s : ByteArray) : Int := if needE m off s.size ≠ 0 then needE m off s.size else if 0 < (needL m off s.size).length then 3 else 0
def pcL (m : List Int) (off : Int) (s : ByteArray) : List (Int × Int × Int × ByteArray) := if pcE m off s = 0 then pcsTo m off.toNat s s.size (cntP off.toNat s.size) else []
def PiecesA (m : List Int) (off : Int) (s : ByteArray) (r : Value) (R' : List SL) (h' : PH) : Prop := R' = [] ∧ ∃ v, r = .tuple #[v, .int .i64 (pcE m off s)] ∧ Sl encP 4 h' v (pcL m off s)
theorem PiecesA.bad {m : List Int} {off : Int} {s : ByteArray} {e : Int} {h : PH} (he : pcE m off s = e) (h0 : e ≠ 0) : PiecesA m off s (.tuple #[.slice none 0 0, .int .i64 e]) [] h := by
  subst he
  exact ⟨rfl, _, rfl, by unfold pcL; rw [if_neg h0]; exact Sl.nil⟩
theorem cntP_le (off len : Nat) : cntP off len ≤ len + 8 := by unfold cntP; split <;> omega
attribute [local irreducible] W WL Does Exec Body Then inBlk RG WR row obj pblk
set_option maxHeartbeats 2000000 in
theorem pieces_fn (h : PH) (m : List Int) (v : Value) (off : Int) (s : ByteArray) (hv : Sl encI 1 h v m) (hl : m.length ≤ 1000000000) (hs : s.size ≤ 1000000) : Does Try.prog 11 [v, .int .i64 off, .string s] [] h (Ret (PiecesA m off s)) := by
  obtain ⟨a, cap, rfl⟩ := hv.shape
  refine Does_of_WM Try.func11 rfl (n := 50) rfl rfl (by simp only [argE, Nat.reduceAdd] <;> rfl) ?_
  (repeat (first | refine WL_nil ?_ | refine WR_succ ?_ | refine Then_normal ?_ | refine W_seq ?_ | refine W_skip ?_ | refine W_ret ?_ | refine W_exit ?_ | refine W_block ?_ | refine Then_ret ?_ | refine Then_panic ?_ | refine inBlk_panic ?_ | refine Then_exit ?_ | refine inBlk_ret ?_ | refine inBlk_normal ?_ | refine inBlk_here ?_ | refine inBlk_out rfl ?_ | refine W_scope ?_ | refine W_label ?_ | refine noG_ret ?_ | refine noG_normal ?_ | refine noG_exit ?_ | refine W_true rfl ?_ | refine W_false rfl ?_))
  refine W_region rfl ?_
  (first | (refine WL_box rfl rfl rfl rfl rfl rfl ?_; intro b_) | (refine WL_boxV rfl rfl (by simp only [vc] <;> rfl) rfl rfl rfl ?_; intro b_))
  generalize b_ = b1
  refine WL_updE (UpdE.freeze 0 rfl) ?_
  rintro _ H1 L1 ⟨rfl, hb1⟩
  have hat := At.of_blk hb1
  have hv1 := hv.mono L1
  simp only [List.eraseIdx_cons_zero]
  (first | refine WL_is (X_assign rfl rfl) rfl rfl rfl ?_)
  (first | refine WL_is (X_assign rfl rfl) rfl rfl rfl ?_)
  (repeat (first | refine WL_nil ?_ | refine WR_succ ?_ | refine Then_normal ?_ | refine W_seq ?_ | refine W_skip ?_ | refine W_ret ?_ | refine W_exit ?_ | refine W_block ?_ | refine Then_ret ?_ | refine Then_panic ?_ | refine inBlk_panic ?_ | refine Then_exit ?_ | refine inBlk_ret ?_ | refine inBlk_normal ?_ | refine inBlk_here ?_ | refine inBlk_out rfl ?_ | refine W_scope ?_ | refine W_label ?_ | refine noG_ret ?_ | refine noG_normal ?_ | refine noG_exit ?_ | refine W_true rfl ?_ | refine W_false rfl ?_))
  (repeat (first | refine WL_nil ?_ | refine WR_succ ?_ | refine Then_normal ?_ | refine W_seq ?_ | refine W_skip ?_ | refine W_ret ?_ | refine W_exit ?_ | refine W_block ?_ | refine Then_ret ?_ | refine Then_panic ?_ | refine inBlk_panic ?_ | refine Then_exit ?_ | refine inBlk_ret ?_ | refine inBlk_normal ?_ | refine inBlk_here ?_ | refine inBlk_out rfl ?_ | refine W_scope ?_ | refine W_label ?_ | refine noG_ret ?_ | refine noG_normal ?_ | refine noG_exit ?_ | refine W_true rfl ?_ | refine W_false rfl ?_))
  refine W_region rfl ?_
  (first | refine WL_is (X_load1 rfl rfl (by first | exact idx0 | exact idx1 | exact idx2 | exact idx3 | exact idx4 | exact idx5 | exact idx6 | exact idx7) rfl rfl) rfl rfl rfl ?_ | refine WL_is (X_loadA rfl rfl (by first | exact idx0 | exact idx1 | exact idx2 | exact idx3 | exact idx4 | exact idx5 | exact idx6 | exact idx7) rfl rfl rfl) rfl rfl rfl ?_ | refine WL_is (X_load1_at rfl rfl (by assumption) rfl rfl) rfl rfl rfl ?_ | refine WL_is (X_load1 rfl rfl (by first | exact idx0 | exact idx1 | exact idx2 | exact idx3 | exact idx4 | exact idx5 | exact idx6 | exact idx7) rfl (by assumption)) rfl rfl rfl ?_ | refine WL_is (X_loadA_at rfl rfl (by assumption) rfl rfl rfl) rfl rfl rfl ?_ | refine WL_is (X_load_spot rfl rfl (by first | exact idx0 | exact idx1 | exact idx2 | exact idx3 | exact idx4 | exact idx5 | exact idx6 | exact idx7) (by first | rfl | omega | (simp only [List.length_set]; first | done | omega)) rfl (by first | omega | (simp only [List.length_set]; omega)) rfl) rfl rfl rfl ?_ | refine WL_is (X_loadAll (sz := 1) rfl rfl (by first | exact idx0 | exact idx1 | exact idx2 | exact idx3 | exact idx4 | exact idx5 | exact idx6 | exact idx7) rfl rfl (by simp only [List.length_map, List.length_set]; omega)) rfl rfl rfl ?_ | refine WL_is (X_loadA_spot rfl rfl (by first | exact idx0 | exact idx1 | exact idx2 | exact idx3 | exact idx4 | exact idx5 | exact idx6 | exact idx7) (by first | rfl | omega | (simp only [List.length_set]; first | done | omega)) rfl rfl rfl (by first | omega | (simp only [List.length_set]; omega)) rfl) rfl rfl rfl ?_)
  (first | refine WL_is (X_move rfl rfl) rfl rfl rfl ?_)
  (first | refine WL_is (X_move rfl rfl) rfl rfl rfl ?_)
  (first | refine WL_is (X_len_sl rfl rfl rfl (by assumption)) rfl rfl rfl ?_ | refine WL_is (X_len rfl rfl rfl) rfl rfl rfl ?_ | refine WL_is (X_len_str rfl rfl rfl) rfl rfl rfl ?_)
  refine WL_call rfl rfl rfl Try.func9 rfl rfl rfl rfl (need_fn H1 m _ off s.size hv1 hl) ?_
  rintro _ _ H2 L2 ⟨rfl, w, rfl, hw⟩
  have hv2 := hv1.mono L2
  have hat2 := hat.mono L2
  obtain ⟨wa, wc, rfl⟩ := hw.shape
  simp only [List.nil_append]
  by_cases he : needE m off s.size = 0
  · obtain ⟨hM, g1, g2, g3, g4⟩ := needE_ok he
    have hml := mayM_len hM
    rw [he]
    by_cases hn : 0 < (needL m off s.size).length
    · have hn' : ((needL m off s.size).length : Int) > 0 := by omega
      (first | refine WL_is (X_move rfl rfl) rfl rfl rfl ?_)
      (first | refine WL_is (X_extract rfl rfl rfl) rfl rfl rfl ?_)
      (first | refine WL_is (X_extract rfl rfl rfl) rfl rfl rfl ?_)
      (first | refine WL_is (X_assign rfl rfl) rfl rfl rfl ?_)
      (first | refine WL_is (X_assign rfl rfl) rfl rfl rfl ?_)
      (repeat (first | refine WL_nil ?_ | refine WR_succ ?_ | refine Then_normal ?_ | refine W_seq ?_ | refine W_skip ?_ | refine W_ret ?_ | refine W_exit ?_ | refine W_block ?_ | refine Then_ret ?_ | refine Then_panic ?_ | refine inBlk_panic ?_ | refine Then_exit ?_ | refine inBlk_ret ?_ | refine inBlk_normal ?_ | refine inBlk_here ?_ | refine inBlk_out rfl ?_ | refine W_scope ?_ | refine W_label ?_ | refine noG_ret ?_ | refine noG_normal ?_ | refine noG_exit ?_ | refine W_true rfl ?_ | refine W_false rfl ?_))
      (repeat (first | refine WL_nil ?_ | refine WR_succ ?_ | refine Then_normal ?_ | refine W_seq ?_ | refine W_skip ?_ | refine W_ret ?_ | refine W_exit ?_ | refine W_block ?_ | refine Then_ret ?_ | refine Then_panic ?_ | refine inBlk_panic ?_ | refine Then_exit ?_ | refine inBlk_ret ?_ | refine inBlk_normal ?_ | refine inBlk_here ?_ | refine inBlk_out rfl ?_ | refine W_scope ?_ | refine W_label ?_ | refine noG_ret ?_ | refine noG_normal ?_ | refine noG_exit ?_ | refine W_true rfl ?_ | refine W_false rfl ?_))
      refine W_region rfl ?_
      (first | refine WL_is (X_move rfl rfl) rfl rfl rfl ?_)
      (first | refine WL_is (X_neq_t rfl rfl rfl (by omega)) rfl rfl rfl ?_ | refine WL_is (X_neq_f rfl rfl rfl (by omega)) rfl rfl rfl ?_ | refine WL_is (X_neq rfl rfl rfl) rfl rfl rfl ?_ | refine WL_is (X_neB rfl rfl rfl rfl) rfl rfl rfl ?_ | refine WL_is (X_neNil rfl rfl rfl rfl) rfl rfl rfl ?_ | refine WL_is (X_nePn_t rfl rfl rfl rfl) rfl rfl rfl ?_ | refine WL_is (X_nePn_f rfl rfl rfl rfl) rfl rfl rfl ?_ | refine WL_is (X_neS_c rfl rfl rfl (by assumption)) rfl rfl rfl ?_ | refine WL_is (X_neS rfl rfl rfl) rfl rfl rfl ?_ | refine WL_is (X_neA 8 heldOk guardOk rfl rfl rfl rfl rfl rfl rfl) rfl rfl rfl ?_)
      (first | refine WL_is (X_assign rfl rfl) rfl rfl rfl ?_)
      (repeat (first | refine WL_nil ?_ | refine WR_succ ?_ | refine Then_normal ?_ | refine W_seq ?_ | refine W_skip ?_ | refine W_ret ?_ | refine W_exit ?_ | refine W_block ?_ | refine Then_ret ?_ | refine Then_panic ?_ | refine inBlk_panic ?_ | refine Then_exit ?_ | refine inBlk_ret ?_ | refine inBlk_normal ?_ | refine inBlk_here ?_ | refine inBlk_out rfl ?_ | refine W_scope ?_ | refine W_label ?_ | refine noG_ret ?_ | refine noG_normal ?_ | refine noG_exit ?_ | refine W_true rfl ?_ | refine W_false rfl ?_))
      (repeat (first | refine WL_nil ?_ | refine WR_succ ?_ | refine Then_normal ?_ | refine W_seq ?_ | refine W_skip ?_ | refine W_ret ?_ | refine W_exit ?_ | refine W_block ?_ | refine Then_ret ?_ | refine Then_panic ?_ | refine inBlk_panic ?_ | refine Then_exit ?_ | refine inBlk_ret ?_ | refine inBlk_normal ?_ | refine inBlk_here ?_ | refine inBlk_out rfl ?_ | refine W_scope ?_ | refine W_label ?_ | refine noG_ret ?_ | refine noG_normal ?_ | refine noG_exit ?_ | refine W_true rfl ?_ | refine W_false rfl ?_))
      refine W_region rfl ?_
      (first | refine WL_is (X_move rfl rfl) rfl rfl rfl ?_)
      (first | refine WL_is (X_len_sl rfl rfl rfl (by assumption)) rfl rfl rfl ?_ | refine WL_is (X_len rfl rfl rfl) rfl rfl rfl ?_ | refine WL_is (X_len_str rfl rfl rfl) rfl rfl rfl ?_)
      (first | refine WL_is (X_gtr_t rfl rfl rfl (by omega)) rfl rfl rfl ?_ | refine WL_is (X_gtr_f rfl rfl rfl (by omega)) rfl rfl rfl ?_ | refine WL_is (X_gtr rfl rfl rfl) rfl rfl rfl ?_)
      (first | refine WL_is (X_assign rfl rfl) rfl rfl rfl ?_)
      (repeat (first | refine WL_nil ?_ | refine WR_succ ?_ | refine Then_normal ?_ | refine W_seq ?_ | refine W_skip ?_ | refine W_ret ?_ | refine W_exit ?_ | refine W_block ?_ | refine Then_ret ?_ | refine Then_panic ?_ | refine inBlk_panic ?_ | refine Then_exit ?_ | refine inBlk_ret ?_ | refine inBlk_normal ?_ | refine inBlk_here ?_ | refine inBlk_out rfl ?_ | refine W_scope ?_ | refine W_label ?_ | refine noG_ret ?_ | refine noG_normal ?_ | refine noG_exit ?_ | refine W_true rfl ?_ | refine W_false rfl ?_))
      (repeat (first | refine WL_nil ?_ | refine WR_succ ?_ | refine Then_normal ?_ | refine W_seq ?_ | refine W_skip ?_ | refine W_ret ?_ | refine W_exit ?_ | refine W_block ?_ | refine Then_ret ?_ | refine Then_panic ?_ | refine inBlk_panic ?_ | refine Then_exit ?_ | refine inBlk_ret ?_ | refine inBlk_normal ?_ | refine inBlk_here ?_ | refine inBlk_out rfl ?_ | refine W_scope ?_ | refine W_label ?_ | refine noG_ret ?_ | refine noG_normal ?_ | refine noG_exit ?_ | refine W_true rfl ?_ | refine W_false rfl ?_))
      refine W_region rfl ?_
      (first | refine WL_is (X_assign rfl rfl) rfl rfl rfl ?_)
      (first | refine WL_is (X_assign rfl rfl) rfl rfl rfl ?_)
      (repeat (first | refine WL_nil ?_ | refine WR_succ ?_ | refine Then_normal ?_ | refine W_seq ?_ | refine W_skip ?_ | refine W_ret ?_ | refine W_exit ?_ | refine W_block ?_ | refine Then_ret ?_ | refine Then_panic ?_ | refine inBlk_panic ?_ | refine Then_exit ?_ | refine inBlk_ret ?_ | refine inBlk_normal ?_ | refine inBlk_here ?_ | refine inBlk_out rfl ?_ | refine W_scope ?_ | refine W_label ?_ | refine noG_ret ?_ | refine noG_normal ?_ | refine noG_exit ?_ | refine W_true rfl ?_ | refine W_false rfl ?_))
      exact BodyM_0 (Body_end rfl rfl rfl (SubR.none _) (PiecesA.bad (by simp [pcE, he, hn]) (by decide)))
    · have hn' : ¬ ((needL m off s.size).length : Int) > 0 := by omega
      have hpe : pcE m off s = 0 := by simp [pcE, he, hn]
      obtain ⟨o, rfl⟩ := Int.eq_ofNat_of_zero_le g1
      (first | refine WL_is (X_move rfl rfl) rfl rfl rfl ?_)
      (first | refine WL_is (X_extract rfl rfl rfl) rfl rfl rfl ?_)
      (first | refine WL_is (X_extract rfl rfl rfl) rfl rfl rfl ?_)
      (first | refine WL_is (X_assign rfl rfl) rfl rfl rfl ?_)
      (first | refine WL_is (X_assign rfl rfl) rfl rfl rfl ?_)
      (repeat (first | refine WL_nil ?_ | refine WR_succ ?_ | refine Then_normal ?_ | refine W_seq ?_ | refine W_skip ?_ | refine W_ret ?_ | refine W_exit ?_ | refine W_block ?_ | refine Then_ret ?_ | refine Then_panic ?_ | refine inBlk_panic ?_ | refine Then_exit ?_ | refine inBlk_ret ?_ | refine inBlk_normal ?_ | refine inBlk_here ?_ | refine inBlk_out rfl ?_ | refine W_scope ?_ | refine W_label ?_ | refine noG_ret ?_ | refine noG_normal ?_ | refine noG_exit ?_ | refine W_true rfl ?_ | refine W_false rfl ?_))
      (repeat (first | refine WL_nil ?_ | refine WR_succ ?_ | refine Then_normal ?_ | refine W_seq ?_ | refine W_skip ?_ | refine W_ret ?_ | refine W_exit ?_ | refine W_block ?_ | refine Then_ret ?_ | refine Then_panic ?_ | refine inBlk_panic ?_ | refine Then_exit ?_ | refine inBlk_ret ?_ | refine inBlk_normal ?_ | refine inBlk_here ?_ | refine inBlk_out rfl ?_ | refine W_scope ?_ | refine W_label ?_ | refine noG_ret ?_ | refine noG_normal ?_ | refine noG_exit ?_ | refine W_true rfl ?_ | refine W_false rfl ?_))
      refine W_region rfl ?_
      (first | refine WL_is (X_move rfl rfl) rfl rfl rfl ?_)
      (first | refine WL_is (X_neq_t rfl rfl rfl (by omega)) rfl rfl rfl ?_ | refine WL_is (X_neq_f rfl rfl rfl (by omega)) rfl rfl rfl ?_ | refine WL_is (X_neq rfl rfl rfl) rfl rfl rfl ?_ | refine WL_is (X_neB rfl rfl rfl rfl) rfl rfl rfl ?_ | refine WL_is (X_neNil rfl rfl rfl rfl) rfl rfl rfl ?_ | refine WL_is (X_nePn_t rfl rfl rfl rfl) rfl rfl rfl ?_ | refine WL_is (X_nePn_f rfl rfl rfl rfl) rfl rfl rfl ?_ | refine WL_is (X_neS_c rfl rfl rfl (by assumption)) rfl rfl rfl ?_ | refine WL_is (X_neS rfl rfl rfl) rfl rfl rfl ?_ | refine WL_is (X_neA 8 heldOk guardOk rfl rfl rfl rfl rfl rfl rfl) rfl rfl rfl ?_)
      (first | refine WL_is (X_assign rfl rfl) rfl rfl rfl ?_)
      (repeat (first | refine WL_nil ?_ | refine WR_succ ?_ | refine Then_normal ?_ | refine W_seq ?_ | refine W_skip ?_ | refine W_ret ?_ | refine W_exit ?_ | refine W_block ?_ | refine Then_ret ?_ | refine Then_panic ?_ | refine inBlk_panic ?_ | refine Then_exit ?_ | refine inBlk_ret ?_ | refine inBlk_normal ?_ | refine inBlk_here ?_ | refine inBlk_out rfl ?_ | refine W_scope ?_ | refine W_label ?_ | refine noG_ret ?_ | refine noG_normal ?_ | refine noG_exit ?_ | refine W_true rfl ?_ | refine W_false rfl ?_))
      (repeat (first | refine WL_nil ?_ | refine WR_succ ?_ | refine Then_normal ?_ | refine W_seq ?_ | refine W_skip ?_ | refine W_ret ?_ | refine W_exit ?_ | refine W_block ?_ | refine Then_ret ?_ | refine Then_panic ?_ | refine inBlk_panic ?_ | refine Then_exit ?_ | refine inBlk_ret ?_ | refine inBlk_normal ?_ | refine inBlk_here ?_ | refine inBlk_out rfl ?_ | refine W_scope ?_ | refine W_label ?_ | refine noG_ret ?_ | refine noG_normal ?_ | refine noG_exit ?_ | refine W_true rfl ?_ | refine W_false rfl ?_))
      refine W_region rfl ?_
      (first | refine WL_is (X_move rfl rfl) rfl rfl rfl ?_)
      (first | refine WL_is (X_len_sl rfl rfl rfl (by assumption)) rfl rfl rfl ?_ | refine WL_is (X_len rfl rfl rfl) rfl rfl rfl ?_ | refine WL_is (X_len_str rfl rfl rfl) rfl rfl rfl ?_)
      (first | refine WL_is (X_gtr_t rfl rfl rfl (by omega)) rfl rfl rfl ?_ | refine WL_is (X_gtr_f rfl rfl rfl (by omega)) rfl rfl rfl ?_ | refine WL_is (X_gtr rfl rfl rfl) rfl rfl rfl ?_)
      (first | refine WL_is (X_assign rfl rfl) rfl rfl rfl ?_)
      (repeat (first | refine WL_nil ?_ | refine WR_succ ?_ | refine Then_normal ?_ | refine W_seq ?_ | refine W_skip ?_ | refine W_ret ?_ | refine W_exit ?_ | refine W_block ?_ | refine Then_ret ?_ | refine Then_panic ?_ | refine inBlk_panic ?_ | refine Then_exit ?_ | refine inBlk_ret ?_ | refine inBlk_normal ?_ | refine inBlk_here ?_ | refine inBlk_out rfl ?_ | refine W_scope ?_ | refine W_label ?_ | refine noG_ret ?_ | refine noG_normal ?_ | refine noG_exit ?_ | refine W_true rfl ?_ | refine W_false rfl ?_))
      (repeat (first | refine WL_nil ?_ | refine WR_succ ?_ | refine Then_normal ?_ | refine W_seq ?_ | refine W_skip ?_ | refine W_ret ?_ | refine W_exit ?_ | refine W_block ?_ | refine Then_ret ?_ | refine Then_panic ?_ | refine inBlk_panic ?_ | refine Then_exit ?_ | refine inBlk_ret ?_ | refine inBlk_normal ?_ | refine inBlk_here ?_ | refine inBlk_out rfl ?_ | refine W_scope ?_ | refine W_label ?_ | refine noG_ret ?_ | refine noG_normal ?_ | refine noG_exit ?_ | refine W_true rfl ?_ | refine W_false rfl ?_))
      refine W_region rfl ?_
      (first | (refine WL_alloc rfl rfl rfl rfl rfl rfl ?_; intro b_))
      (repeat (first | refine WL_nil ?_ | refine WR_succ ?_ | refine Then_normal ?_ | refine W_seq ?_ | refine W_skip ?_ | refine W_ret ?_ | refine W_exit ?_ | refine W_block ?_ | refine Then_ret ?_ | refine Then_panic ?_ | refine inBlk_panic ?_ | refine Then_exit ?_ | refine inBlk_ret ?_ | refine inBlk_normal ?_ | refine inBlk_here ?_ | refine inBlk_out rfl ?_ | refine W_scope ?_ | refine W_label ?_ | refine noG_ret ?_ | refine noG_normal ?_ | refine noG_exit ?_ | refine W_true rfl ?_ | refine W_false rfl ?_))
      (repeat (first | refine WL_nil ?_ | refine WR_succ ?_ | refine Then_normal ?_ | refine W_seq ?_ | refine W_skip ?_ | refine W_ret ?_ | refine W_exit ?_ | refine W_block ?_ | refine Then_ret ?_ | refine Then_panic ?_ | refine inBlk_panic ?_ | refine Then_exit ?_ | refine inBlk_ret ?_ | refine inBlk_normal ?_ | refine inBlk_here ?_ | refine inBlk_out rfl ?_ | refine W_scope ?_ | refine W_label ?_ | refine noG_ret ?_ | refine noG_normal ?_ | refine noG_exit ?_ | refine W_true rfl ?_ | refine W_false rfl ?_))
      refine W_region rfl ?_
      (first | refine WL_is (X_move rfl rfl) rfl rfl rfl ?_)
      (first | refine WL_is (X_move rfl rfl) rfl rfl rfl ?_)
      generalize b_ = b2
      refine WL_call rfl rfl rfl Try.func22 rfl rfl rfl rfl (cuts_fn H2 o s (by omega)) ?_
      rintro _ _ H3 L3 ⟨rfl, lb, rfl, hit⟩
      have hv3 := hv2.mono L3
      have hat3 := hat2.mono L3
      simp only [List.nil_append]
      refine WL_upd (Upd.nilrow (e := 32) (sz := 4)) ?_
      (repeat (first | refine WL_nil ?_ | refine WR_succ ?_ | refine Then_normal ?_ | refine W_seq ?_ | refine W_skip ?_ | refine W_ret ?_ | refine W_exit ?_ | refine W_block ?_ | refine Then_ret ?_ | refine Then_panic ?_ | refine inBlk_panic ?_ | refine Then_exit ?_ | refine inBlk_ret ?_ | refine inBlk_normal ?_ | refine inBlk_here ?_ | refine inBlk_out rfl ?_ | refine W_scope ?_ | refine W_label ?_ | refine noG_ret ?_ | refine noG_normal ?_ | refine noG_exit ?_ | refine W_true rfl ?_ | refine W_false rfl ?_))
      refine W_rangeF (X := Nat × Value) (N := cntP o s.size) (args := argP o s) (RC := []) (R2 := []) (fun x => [rowL encP x.2 32 4 (pcsTo m o s s.size x.1), blk b2 [x.2] 27]) (fun i x => x.1 = i) (fun _ _ _ => False) (0, .slice none 0 0) rfl Try.func28 rfl (by decide) (fun _ => rfl) rfl (fun _ => rfl) (.refl _) rfl hit ?_ ?_ ?_
      · rintro l j ⟨j', x⟩ H4 hj L4 hx
        dsimp only at hx
        subst hx
        have hv4 := hv3.mono L4
        have hat4 := hat3.mono L4
        simp only [putL, argP]
        obtain ⟨q1, q2, q3⟩ := stP_lt hj
        have hcl := cntP_le o s.size
        have hpl := pcsTo_len m o s s.size j'
        have hq : (((o + stP o j' : Nat) : Int) / 256).toNat = (o + stP o j') / 256 := by omega
        have hlt : (o + stP o j') / 256 < m.length := by omega
        have hgt : m[(((o + stP o j' : Nat) : Int) / 256).toNat]'(by omega) = (pieceP m o s s.size j').1 := by
          simp only [pieceP, hq]; rw [List.getElem?_eq_getElem hlt]; rfl
        refine W_updE (UpdE.shapeL 0 rfl) ?_
        rintro _ _ - ⟨rfl, rfl, xa, xc, rfl⟩
        (repeat (first | refine WL_nil ?_ | refine WR_succ ?_ | refine Then_normal ?_ | refine W_seq ?_ | refine W_skip ?_ | refine W_ret ?_ | refine W_exit ?_ | refine W_block ?_ | refine Then_ret ?_ | refine Then_panic ?_ | refine inBlk_panic ?_ | refine Then_exit ?_ | refine inBlk_ret ?_ | refine inBlk_normal ?_ | refine inBlk_here ?_ | refine inBlk_out rfl ?_ | refine W_scope ?_ | refine W_label ?_ | refine noG_ret ?_ | refine noG_normal ?_ | refine noG_exit ?_ | refine W_true rfl ?_ | refine W_false rfl ?_))
        refine W_region rfl ?_
        (first | refine WL_is (X_assign rfl rfl) rfl rfl rfl ?_)
        (repeat (first | refine WL_nil ?_ | refine WR_succ ?_ | refine Then_normal ?_ | refine W_seq ?_ | refine W_skip ?_ | refine W_ret ?_ | refine W_exit ?_ | refine W_block ?_ | refine Then_ret ?_ | refine Then_panic ?_ | refine inBlk_panic ?_ | refine Then_exit ?_ | refine inBlk_ret ?_ | refine inBlk_normal ?_ | refine inBlk_here ?_ | refine inBlk_out rfl ?_ | refine W_scope ?_ | refine W_label ?_ | refine noG_ret ?_ | refine noG_normal ?_ | refine noG_exit ?_ | refine W_true rfl ?_ | refine W_false rfl ?_))
        (repeat (first | refine WL_nil ?_ | refine WR_succ ?_ | refine Then_normal ?_ | refine W_seq ?_ | refine W_skip ?_ | refine W_ret ?_ | refine W_exit ?_ | refine W_block ?_ | refine Then_ret ?_ | refine Then_panic ?_ | refine inBlk_panic ?_ | refine Then_exit ?_ | refine inBlk_ret ?_ | refine inBlk_normal ?_ | refine inBlk_here ?_ | refine inBlk_out rfl ?_ | refine W_scope ?_ | refine W_label ?_ | refine noG_ret ?_ | refine noG_normal ?_ | refine noG_exit ?_ | refine W_true rfl ?_ | refine W_false rfl ?_))
        refine W_region rfl ?_
        (first | refine WL_is (X_assign rfl rfl) rfl rfl rfl ?_)
        (repeat (first | refine WL_nil ?_ | refine WR_succ ?_ | refine Then_normal ?_ | refine W_seq ?_ | refine W_skip ?_ | refine W_ret ?_ | refine W_exit ?_ | refine W_block ?_ | refine Then_ret ?_ | refine Then_panic ?_ | refine inBlk_panic ?_ | refine Then_exit ?_ | refine inBlk_ret ?_ | refine inBlk_normal ?_ | refine inBlk_here ?_ | refine inBlk_out rfl ?_ | refine W_scope ?_ | refine W_label ?_ | refine noG_ret ?_ | refine noG_normal ?_ | refine noG_exit ?_ | refine W_true rfl ?_ | refine W_false rfl ?_))
        have hpc : (m[(((o + stP o j' : Nat) : Int) / 256).toNat]'(by omega), ((o + stP o j' : Nat) : Int) % 256 / 8, ((o + stP o j' : Nat) : Int) % 8, txtP o s j') = pieceP m o s s.size j' := by
          rw [hgt]
          simp only [pieceP, txtP, Prod.mk.injEq, true_and]
          exact ⟨by omega, by omega, trivial⟩
        (repeat (first | refine WL_nil ?_ | refine WR_succ ?_ | refine Then_normal ?_ | refine W_seq ?_ | refine W_skip ?_ | refine W_ret ?_ | refine W_exit ?_ | refine W_block ?_ | refine Then_ret ?_ | refine Then_panic ?_ | refine inBlk_panic ?_ | refine Then_exit ?_ | refine inBlk_ret ?_ | refine inBlk_normal ?_ | refine inBlk_here ?_ | refine inBlk_out rfl ?_ | refine W_scope ?_ | refine W_label ?_ | refine noG_ret ?_ | refine noG_normal ?_ | refine noG_exit ?_ | refine W_true rfl ?_ | refine W_false rfl ?_))
        refine W_draw0 14 rfl rfl rfl rfl ?_
        (first | refine RG_val rfl rfl (fun _ => rfl) (fun _ => X_load1 rfl rfl (by first | exact idx0 | exact idx1 | exact idx2 | exact idx3 | exact idx4 | exact idx5 | exact idx6 | exact idx7) rfl rfl) ?_ | refine RG_val rfl rfl (fun _ => rfl) (fun _ => X_loadA rfl rfl (by first | exact idx0 | exact idx1 | exact idx2 | exact idx3 | exact idx4 | exact idx5 | exact idx6 | exact idx7) rfl rfl rfl) ?_ | refine RG_val rfl rfl (fun _ => rfl) (fun _ => X_load1_at rfl rfl (by assumption) rfl rfl) ?_ | refine RG_val rfl rfl (fun _ => rfl) (fun _ => X_load1 rfl rfl (by first | exact idx0 | exact idx1 | exact idx2 | exact idx3 | exact idx4 | exact idx5 | exact idx6 | exact idx7) rfl (by assumption)) ?_ | refine RG_val rfl rfl (fun _ => rfl) (fun _ => X_loadA_at rfl rfl (by assumption) rfl rfl rfl) ?_ | refine RG_val rfl rfl (fun _ => rfl) (fun _ => X_load_spot rfl rfl (by first | exact idx0 | exact idx1 | exact idx2 | exact idx3 | exact idx4 | exact idx5 | exact idx6 | exact idx7) (by first | rfl | omega | (simp only [List.length_set]; first | done | omega)) rfl (by first | omega | (simp only [List.length_set]; omega)) rfl) ?_ | refine RG_val rfl rfl (fun _ => rfl) (fun _ => X_loadAll (sz := 1) rfl rfl (by first | exact idx0 | exact idx1 | exact idx2 | exact idx3 | exact idx4 | exact idx5 | exact idx6 | exact idx7) rfl rfl (by simp only [List.length_map, List.length_set]; omega)) ?_ | refine RG_val rfl rfl (fun _ => rfl) (fun _ => X_loadA_spot rfl rfl (by first | exact idx0 | exact idx1 | exact idx2 | exact idx3 | exact idx4 | exact idx5 | exact idx6 | exact idx7) (by first | rfl | omega | (simp only [List.length_set]; first | done | omega)) rfl rfl rfl (by first | omega | (simp only [List.length_set]; omega)) rfl) ?_)
        (first | refine RG_val rfl rfl (fun _ => rfl) (fun _ => X_load1 rfl rfl (by first | exact idx0 | exact idx1 | exact idx2 | exact idx3 | exact idx4 | exact idx5 | exact idx6 | exact idx7) rfl rfl) ?_ | refine RG_val rfl rfl (fun _ => rfl) (fun _ => X_loadA rfl rfl (by first | exact idx0 | exact idx1 | exact idx2 | exact idx3 | exact idx4 | exact idx5 | exact idx6 | exact idx7) rfl rfl rfl) ?_ | refine RG_val rfl rfl (fun _ => rfl) (fun _ => X_load1_at rfl rfl (by assumption) rfl rfl) ?_ | refine RG_val rfl rfl (fun _ => rfl) (fun _ => X_load1 rfl rfl (by first | exact idx0 | exact idx1 | exact idx2 | exact idx3 | exact idx4 | exact idx5 | exact idx6 | exact idx7) rfl (by assumption)) ?_ | refine RG_val rfl rfl (fun _ => rfl) (fun _ => X_loadA_at rfl rfl (by assumption) rfl rfl rfl) ?_ | refine RG_val rfl rfl (fun _ => rfl) (fun _ => X_load_spot rfl rfl (by first | exact idx0 | exact idx1 | exact idx2 | exact idx3 | exact idx4 | exact idx5 | exact idx6 | exact idx7) (by first | rfl | omega | (simp only [List.length_set]; first | done | omega)) rfl (by first | omega | (simp only [List.length_set]; omega)) rfl) ?_ | refine RG_val rfl rfl (fun _ => rfl) (fun _ => X_loadAll (sz := 1) rfl rfl (by first | exact idx0 | exact idx1 | exact idx2 | exact idx3 | exact idx4 | exact idx5 | exact idx6 | exact idx7) rfl rfl (by simp only [List.length_map, List.length_set]; omega)) ?_ | refine RG_val rfl rfl (fun _ => rfl) (fun _ => X_loadA_spot rfl rfl (by first | exact idx0 | exact idx1 | exact idx2 | exact idx3 | exact idx4 | exact idx5 | exact idx6 | exact idx7) (by first | rfl | omega | (simp only [List.length_set]; first | done | omega)) rfl rfl rfl (by first | omega | (simp only [List.length_set]; omega)) rfl) ?_)
        (first | refine RG_val rfl rfl (fun _ => rfl) (fun _ => X_move rfl rfl) ?_)
        (first | refine RG_val rfl rfl (fun _ => rfl) (fun _ => X_quoW rfl rfl rfl (by omega) (by omega) (by first | exact wrap_i64_in (by omega) (by omega) | exact wrap_u16_in (by omega) (by omega) | exact wrap_u8_in (by omega) (by omega) | exact wrap_u64_in (by omega) (by omega))) ?_ | refine RG_val rfl rfl (fun _ => rfl) (fun _ => X_quo rfl rfl rfl (by omega) (by omega)) ?_)
        (first | refine RG_val rfl rfl (fun _ => rfl) (fun _ => X_index_row rfl rfl (by first | exact idx0 | exact idx1 | exact idx2 | exact idx3 | exact idx4 | exact idx5 | exact idx6 | exact idx7) rfl rfl rfl (by omega)) ?_ | refine RG_val rfl rfl (fun _ => rfl) (fun _ => X_index_rowI rfl rfl (by first | exact idx0 | exact idx1 | exact idx2 | exact idx3 | exact idx4 | exact idx5 | exact idx6 | exact idx7) rfl rfl rfl (by omega) (by omega)) ?_ | refine RG_val rfl rfl (fun _ => rfl) (fun _ => X_index_own rfl rfl rfl rfl rfl (by omega) (by omega) (by simp only [Int.reduceAdd, Nat.reduceAdd, Nat.reduceMul, Nat.zero_add, Int.toNat_zero, Int.toNat_one, Int.reduceToNat, Int.toNat_natCast, Nat.mul_one, Nat.zero_mul] <;> rfl)) ?_ | refine RG_val rfl rfl (fun _ => rfl) (fun _ => X_index_arr (sz := 1) rfl rfl rfl rfl rfl (by omega) (by omega) (by simp only [Int.reduceAdd, Nat.reduceAdd, Nat.reduceMul, Nat.zero_add, Int.toNat_zero, Int.toNat_one, Int.reduceToNat, Int.toNat_natCast, Nat.mul_one, Nat.zero_mul] <;> rfl)) ?_ | refine RG_val rfl rfl (fun _ => rfl) (fun _ => X_index_arrspot (sz := 6) rfl rfl rfl rfl rfl (by omega)) ?_ | refine RG_val rfl rfl (fun _ => rfl) (fun _ => X_index_arr rfl rfl rfl rfl rfl (by omega) (by omega) (by simp only [Int.reduceAdd, Nat.reduceAdd, Nat.reduceMul, Nat.zero_add, Int.toNat_zero, Int.toNat_one, Int.reduceToNat, Int.toNat_natCast, Nat.mul_one, Nat.zero_mul] <;> rfl)) ?_ | (refine RG_index_slN rfl rfl rfl (fun _ => rfl) (fun _ => rfl) (by assumption) (by omega) rfl rfl (fun _ => rfl) ?_; intro p_ hp_) | (refine RG_index_sl rfl rfl rfl (fun _ => rfl) (fun _ => rfl) (by assumption) (by omega) (by omega) rfl rfl (fun _ => rfl) ?_; intro p_ hp_))
        (first | refine RG_val rfl rfl (fun _ => rfl) (fun _ => X_load1 rfl rfl (by first | exact idx0 | exact idx1 | exact idx2 | exact idx3 | exact idx4 | exact idx5 | exact idx6 | exact idx7) rfl rfl) ?_ | refine RG_val rfl rfl (fun _ => rfl) (fun _ => X_loadA rfl rfl (by first | exact idx0 | exact idx1 | exact idx2 | exact idx3 | exact idx4 | exact idx5 | exact idx6 | exact idx7) rfl rfl rfl) ?_ | refine RG_val rfl rfl (fun _ => rfl) (fun _ => X_load1_at rfl rfl (by assumption) rfl rfl) ?_ | refine RG_val rfl rfl (fun _ => rfl) (fun _ => X_load1 rfl rfl (by first | exact idx0 | exact idx1 | exact idx2 | exact idx3 | exact idx4 | exact idx5 | exact idx6 | exact idx7) rfl (by assumption)) ?_ | refine RG_val rfl rfl (fun _ => rfl) (fun _ => X_loadA_at rfl rfl (by assumption) rfl rfl rfl) ?_ | refine RG_val rfl rfl (fun _ => rfl) (fun _ => X_load_spot rfl rfl (by first | exact idx0 | exact idx1 | exact idx2 | exact idx3 | exact idx4 | exact idx5 | exact idx6 | exact idx7) (by first | rfl | omega | (simp only [List.length_set]; first | done | omega)) rfl (by first | omega | (simp only [List.length_set]; omega)) rfl) ?_ | refine RG_val rfl rfl (fun _ => rfl) (fun _ => X_loadAll (sz := 1) rfl rfl (by first | exact idx0 | exact idx1 | exact idx2 | exact idx3 | exact idx4 | exact idx5 | exact idx6 | exact idx7) rfl rfl (by simp only [List.length_map, List.length_set]; omega)) ?_ | refine RG_val rfl rfl (fun _ => rfl) (fun _ => X_loadA_spot rfl rfl (by first | exact idx0 | exact idx1 | exact idx2 | exact idx3 | exact idx4 | exact idx5 | exact idx6 | exact idx7) (by first | rfl | omega | (simp only [List.length_set]; first | done | omega)) rfl rfl rfl (by first | omega | (simp only [List.length_set]; omega)) rfl) ?_)
        (first | refine RG_val rfl rfl (fun _ => rfl) (fun _ => X_move rfl rfl) ?_)
        (first | refine RG_val rfl rfl (fun _ => rfl) (fun _ => X_rem rfl rfl rfl (by omega) (by omega)) ?_)
        (first | refine RG_val rfl rfl (fun _ => rfl) (fun _ => X_quoW rfl rfl rfl (by omega) (by omega) (by first | exact wrap_i64_in (by omega) (by omega) | exact wrap_u16_in (by omega) (by omega) | exact wrap_u8_in (by omega) (by omega) | exact wrap_u64_in (by omega) (by omega))) ?_ | refine RG_val rfl rfl (fun _ => rfl) (fun _ => X_quo rfl rfl rfl (by omega) (by omega)) ?_)
        (first | refine RG_val rfl rfl (fun _ => rfl) (fun _ => X_move rfl rfl) ?_)
        (first | refine RG_val rfl rfl (fun _ => rfl) (fun _ => X_rem rfl rfl rfl (by omega) (by omega)) ?_)
        (first | refine RG_val rfl rfl (fun _ => rfl) (fun _ => X_move rfl rfl) ?_)
        (first | refine RG_val rfl rfl (fun _ => rfl) (fun _ => X_build rfl rfl rfl) ?_)
        refine RG_buildSl (enc := encP) [(m[(((o + stP o j' : Nat) : Int) / 256).toNat]'(by omega), ((o + stP o j' : Nat) : Int) % 256 / 8, ((o + stP o j' : Nat) : Int) % 8, txtP o s j')] (lenP _) rfl (fun _ => rfl) rfl rfl rfl rfl rfl rfl rfl rfl rfl rfl rfl rfl (fun _ => rfl) ?_
        refine RG_nil ?_
        refine RG_end rfl (fun vs => by simp only [endE, List.cons_append, List.nil_append] <;> rfl) (fun vs => by simp only [endR, List.nil_append, List.append_nil] <;> rfl) (fun vs h' hf => hf) ?_
        rintro vs H5 L5 hf
        have hf1 := hf.1
        clear hf
        simp only [Nat.zero_add, Nat.reduceAdd, hpc] at hf1 ⊢
        generalize vs 13 = r13 at *
        refine WL_append (enc := encP) (L := pcsTo m o s s.size j') (L' := [pieceP m o s s.size j']) (i := 0) rfl rfl rfl elemP rfl rfl (Src.sl hf1) (flatP _) (by simp only [List.length_cons, List.length_nil]; omega) (by simp only [List.length_cons, List.length_nil]; omega) rfl rfl rfl ?_
        intro v3
        simp only [List.set_cons_zero, ← pcsTo_succ]
        refine WL_updE (UpdE.shapeL 0 rfl) ?_
        rintro _ _ - ⟨rfl, rfl, xa2, xc2, rfl⟩
        (first | refine WL_store rfl rfl rfl (by first | exact idx0 | exact idx1 | exact idx2 | exact idx3 | exact idx4 | exact idx5 | exact idx6 | exact idx7) rfl rfl rfl rfl rfl rfl rfl rfl rfl ?_ | refine WL_storeV (sz := 1) rfl rfl rfl (by first | exact idx0 | exact idx1 | exact idx2 | exact idx3 | exact idx4 | exact idx5 | exact idx6 | exact idx7) rfl (by simp only [vc] <;> rfl) rfl rfl (by first | omega | (simp only [List.length_set, List.length_map, List.length_cons]; omega)) rfl rfl (by simp only [wr, List.set_cons_zero, List.set_cons_succ] <;> rfl) (by simp only [List.set_cons_zero, List.set_cons_succ] <;> rfl) ?_ | refine WL_store_spot rfl rfl rfl (by first | exact idx0 | exact idx1 | exact idx2 | exact idx3 | exact idx4 | exact idx5 | exact idx6 | exact idx7) (by first | rfl | omega | (simp only [List.length_set]; first | done | omega)) rfl rfl rfl rfl rfl (by first | omega | (simp only [List.length_set]; omega)) rfl rfl rfl rfl ?_ | refine WL_storeV rfl rfl rfl (by first | exact idx0 | exact idx1 | exact idx2 | exact idx3 | exact idx4 | exact idx5 | exact idx6 | exact idx7) rfl (by simp only [vc] <;> rfl) rfl rfl (by simp; done) rfl rfl (by simp only [wr, List.set_cons_zero, List.set_cons_succ] <;> rfl) (by simp only [List.set_cons_zero, List.set_cons_succ] <;> rfl) ?_)
        (repeat (first | refine WL_nil ?_ | refine WR_succ ?_ | refine Then_normal ?_ | refine W_seq ?_ | refine W_skip ?_ | refine W_ret ?_ | refine W_exit ?_ | refine W_block ?_ | refine Then_ret ?_ | refine Then_panic ?_ | refine inBlk_panic ?_ | refine Then_exit ?_ | refine inBlk_ret ?_ | refine inBlk_normal ?_ | refine inBlk_here ?_ | refine inBlk_out rfl ?_ | refine W_scope ?_ | refine W_label ?_ | refine noG_ret ?_ | refine noG_normal ?_ | refine noG_exit ?_ | refine W_true rfl ?_ | refine W_false rfl ?_))
        exact ⟨(j' + 1, _), SubR.refl _, rfl⟩
      · rintro b3 ⟨j', x⟩ H4 L4 hx
        dsimp only at hx
        subst hx
        (repeat (first | refine WL_nil ?_ | refine WR_succ ?_ | refine Then_normal ?_ | refine W_seq ?_ | refine W_skip ?_ | refine W_ret ?_ | refine W_exit ?_ | refine W_block ?_ | refine Then_ret ?_ | refine Then_panic ?_ | refine inBlk_panic ?_ | refine Then_exit ?_ | refine inBlk_ret ?_ | refine inBlk_normal ?_ | refine inBlk_here ?_ | refine inBlk_out rfl ?_ | refine W_scope ?_ | refine W_label ?_ | refine noG_ret ?_ | refine noG_normal ?_ | refine noG_exit ?_ | refine W_true rfl ?_ | refine W_false rfl ?_))
        (repeat (first | refine WL_nil ?_ | refine WR_succ ?_ | refine Then_normal ?_ | refine W_seq ?_ | refine W_skip ?_ | refine W_ret ?_ | refine W_exit ?_ | refine W_block ?_ | refine Then_ret ?_ | refine Then_panic ?_ | refine inBlk_panic ?_ | refine Then_exit ?_ | refine inBlk_ret ?_ | refine inBlk_normal ?_ | refine inBlk_here ?_ | refine inBlk_out rfl ?_ | refine W_scope ?_ | refine W_label ?_ | refine noG_ret ?_ | refine noG_normal ?_ | refine noG_exit ?_ | refine W_true rfl ?_ | refine W_false rfl ?_))
        refine W_region rfl ?_
        (first | refine WL_is (X_load1 rfl rfl (by first | exact idx0 | exact idx1 | exact idx2 | exact idx3 | exact idx4 | exact idx5 | exact idx6 | exact idx7) rfl rfl) rfl rfl rfl ?_ | refine WL_is (X_loadA rfl rfl (by first | exact idx0 | exact idx1 | exact idx2 | exact idx3 | exact idx4 | exact idx5 | exact idx6 | exact idx7) rfl rfl rfl) rfl rfl rfl ?_ | refine WL_is (X_load1_at rfl rfl (by assumption) rfl rfl) rfl rfl rfl ?_ | refine WL_is (X_load1 rfl rfl (by first | exact idx0 | exact idx1 | exact idx2 | exact idx3 | exact idx4 | exact idx5 | exact idx6 | exact idx7) rfl (by assumption)) rfl rfl rfl ?_ | refine WL_is (X_loadA_at rfl rfl (by assumption) rfl rfl rfl) rfl rfl rfl ?_ | refine WL_is (X_load_spot rfl rfl (by first | exact idx0 | exact idx1 | exact idx2 | exact idx3 | exact idx4 | exact idx5 | exact idx6 | exact idx7) (by first | rfl | omega | (simp only [List.length_set]; first | done | omega)) rfl (by first | omega | (simp only [List.length_set]; omega)) rfl) rfl rfl rfl ?_ | refine WL_is (X_loadAll (sz := 1) rfl rfl (by first | exact idx0 | exact idx1 | exact idx2 | exact idx3 | exact idx4 | exact idx5 | exact idx6 | exact idx7) rfl rfl (by simp only [List.length_map, List.length_set]; omega)) rfl rfl rfl ?_ | refine WL_is (X_loadA_spot rfl rfl (by first | exact idx0 | exact idx1 | exact idx2 | exact idx3 | exact idx4 | exact idx5 | exact idx6 | exact idx7) (by first | rfl | omega | (simp only [List.length_set]; first | done | omega)) rfl rfl rfl (by first | omega | (simp only [List.length_set]; omega)) rfl) rfl rfl rfl ?_)
        (first | refine WL_is (X_assign rfl rfl) rfl rfl rfl ?_)
        (first | refine WL_is (X_assign rfl rfl) rfl rfl rfl ?_)
        (repeat (first | refine WL_nil ?_ | refine WR_succ ?_ | refine Then_normal ?_ | refine W_seq ?_ | refine W_skip ?_ | refine W_ret ?_ | refine W_exit ?_ | refine W_block ?_ | refine Then_ret ?_ | refine Then_panic ?_ | refine inBlk_panic ?_ | refine Then_exit ?_ | refine inBlk_ret ?_ | refine inBlk_normal ?_ | refine inBlk_here ?_ | refine inBlk_out rfl ?_ | refine W_scope ?_ | refine W_label ?_ | refine noG_ret ?_ | refine noG_normal ?_ | refine noG_exit ?_ | refine W_true rfl ?_ | refine W_false rfl ?_))
        refine BodyM_1 (R1 := [rowL encP x 32 4 (pcsTo m o s s.size (cntP o s.size)), blk b2 [x] 27]) (SubR.of_perm (perm_front 2 rfl)) ?_
        refine Body_vals (.cons (.tmp rfl) (.cons (.tmp rfl) .nil)) rfl ?_
        refine (UpdE.row 0 rfl (lenP _)).then ?_
        rintro R' h' - ⟨rfl, hs⟩
        exact UpdE.sub (R1 := []) (SubR.none _) ⟨rfl, x, by rw [hpe], by unfold pcL; rw [if_pos hpe]; exact hs⟩
      · rintro _ _ _ _ _ _ _ hf; exact hf.elim
  · (first | refine WL_is (X_move rfl rfl) rfl rfl rfl ?_)
    (first | refine WL_is (X_extract rfl rfl rfl) rfl rfl rfl ?_)
    (first | refine WL_is (X_extract rfl rfl rfl) rfl rfl rfl ?_)
    (first | refine WL_is (X_assign rfl rfl) rfl rfl rfl ?_)
    (first | refine WL_is (X_assign rfl rfl) rfl rfl rfl ?_)
    (repeat (first | refine WL_nil ?_ | refine WR_succ ?_ | refine Then_normal ?_ | refine W_seq ?_ | refine W_skip ?_ | refine W_ret ?_ | refine W_exit ?_ | refine W_block ?_ | refine Then_ret ?_ | refine Then_panic ?_ | refine inBlk_panic ?_ | refine Then_exit ?_ | refine inBlk_ret ?_ | refine inBlk_normal ?_ | refine inBlk_here ?_ | refine inBlk_out rfl ?_ | refine W_scope ?_ | refine W_label ?_ | refine noG_ret ?_ | refine noG_normal ?_ | refine noG_exit ?_ | refine W_true rfl ?_ | refine W_false rfl ?_))
    (repeat (first | refine WL_nil ?_ | refine WR_succ ?_ | refine Then_normal ?_ | refine W_seq ?_ | refine W_skip ?_ | refine W_ret ?_ | refine W_exit ?_ | refine W_block ?_ | refine Then_ret ?_ | refine Then_panic ?_ | refine inBlk_panic ?_ | refine Then_exit ?_ | refine inBlk_ret ?_ | refine inBlk_normal ?_ | refine inBlk_here ?_ | refine inBlk_out rfl ?_ | refine W_scope ?_ | refine W_label ?_ | refine noG_ret ?_ | refine noG_normal ?_ | refine noG_exit ?_ | refine W_true rfl ?_ | refine W_false rfl ?_))
    refine W_region rfl ?_
    (first | refine WL_is (X_move rfl rfl) rfl rfl rfl ?_)
    (first | refine WL_is (X_neq_t rfl rfl rfl (by omega)) rfl rfl rfl ?_ | refine WL_is (X_neq_f rfl rfl rfl (by omega)) rfl rfl rfl ?_ | refine WL_is (X_neq rfl rfl rfl) rfl rfl rfl ?_ | refine WL_is (X_neB rfl rfl rfl rfl) rfl rfl rfl ?_ | refine WL_is (X_neNil rfl rfl rfl rfl) rfl rfl rfl ?_ | refine WL_is (X_nePn_t rfl rfl rfl rfl) rfl rfl rfl ?_ | refine WL_is (X_nePn_f rfl rfl rfl rfl) rfl rfl rfl ?_ | refine WL_is (X_neS_c rfl rfl rfl (by assumption)) rfl rfl rfl ?_ | refine WL_is (X_neS rfl rfl rfl) rfl rfl rfl ?_ | refine WL_is (X_neA 8 heldOk guardOk rfl rfl rfl rfl rfl rfl rfl) rfl rfl rfl ?_)
    (first | refine WL_is (X_assign rfl rfl) rfl rfl rfl ?_)
    (repeat (first | refine WL_nil ?_ | refine WR_succ ?_ | refine Then_normal ?_ | refine W_seq ?_ | refine W_skip ?_ | refine W_ret ?_ | refine W_exit ?_ | refine W_block ?_ | refine Then_ret ?_ | refine Then_panic ?_ | refine inBlk_panic ?_ | refine Then_exit ?_ | refine inBlk_ret ?_ | refine inBlk_normal ?_ | refine inBlk_here ?_ | refine inBlk_out rfl ?_ | refine W_scope ?_ | refine W_label ?_ | refine noG_ret ?_ | refine noG_normal ?_ | refine noG_exit ?_ | refine W_true rfl ?_ | refine W_false rfl ?_))
    (repeat (first | refine WL_nil ?_ | refine WR_succ ?_ | refine Then_normal ?_ | refine W_seq ?_ | refine W_skip ?_ | refine W_ret ?_ | refine W_exit ?_ | refine W_block ?_ | refine Then_ret ?_ | refine Then_panic ?_ | refine inBlk_panic ?_ | refine Then_exit ?_ | refine inBlk_ret ?_ | refine inBlk_normal ?_ | refine inBlk_here ?_ | refine inBlk_out rfl ?_ | refine W_scope ?_ | refine W_label ?_ | refine noG_ret ?_ | refine noG_normal ?_ | refine noG_exit ?_ | refine W_true rfl ?_ | refine W_false rfl ?_))
    refine W_region rfl ?_
    (first | refine WL_is (X_move rfl rfl) rfl rfl rfl ?_)
    (first | refine WL_is (X_assign rfl rfl) rfl rfl rfl ?_)
    (first | refine WL_is (X_assign rfl rfl) rfl rfl rfl ?_)
    (repeat (first | refine WL_nil ?_ | refine WR_succ ?_ | refine Then_normal ?_ | refine W_seq ?_ | refine W_skip ?_ | refine W_ret ?_ | refine W_exit ?_ | refine W_block ?_ | refine Then_ret ?_ | refine Then_panic ?_ | refine inBlk_panic ?_ | refine Then_exit ?_ | refine inBlk_ret ?_ | refine inBlk_normal ?_ | refine inBlk_here ?_ | refine inBlk_out rfl ?_ | refine W_scope ?_ | refine W_label ?_ | refine noG_ret ?_ | refine noG_normal ?_ | refine noG_exit ?_ | refine W_true rfl ?_ | refine W_false rfl ?_))
    exact BodyM_0 (Body_end rfl rfl rfl (SubR.none _) (PiecesA.bad (by simp [pcE, he]) he))
end Go.Proofs.Ytoocbfpomamdeaa
