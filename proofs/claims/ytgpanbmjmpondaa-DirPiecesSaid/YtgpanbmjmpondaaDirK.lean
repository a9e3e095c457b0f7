/- Directories: with another slot at a spot (dir.with), walked. -/
import Derived.Test.YtgpanbmjmpondaaDirJ
namespace Go.Proofs.Ytgpanbmjmpondaa
set_option maxRecDepth 4000
open Go Go.Par PH
structure WX where
  a : Option Addr
  cp : Nat
  r : List Chu
  g : PH
attribute [local irreducible] W WL Does Exec Body Then inBlk RG WR row obj pblk
set_option maxHeartbeats 4000000 in
theorem with_fn (h : PH) (v : Value) (d : Dr) (k c s : Nat) (y : Slo) (hv : DrV h v d) (hb : maxR d ≤ 1000000) (hk : k < 4) (hc : c ≤ (d.row k).length) (hs : s < 10) :
    Does Try.prog 37 [v, spoV ⟨k, c, s⟩, sloV y] [] h (Ret fun r R' h' => DrV h' r (withD d k c s y) ∧ R' = []) := by
  have hte := hv.ten
  have hb0 := row_le d 0
  have hb1 := row_le d 1
  have hb2 := row_le d 2
  have hb3 := row_le d 3
  replace hb0 := Nat.le_trans hb0 hb
  replace hb1 := Nat.le_trans hb1 hb
  replace hb2 := Nat.le_trans hb2 hb
  replace hb3 := Nat.le_trans hb3 hb
  have t0 := hte 0 (by omega)
  have t1 := hte 1 (by omega)
  have t2 := hte 2 (by omega)
  have t3 := hte 3 (by omega)
  obtain ⟨b0, b1, b2, b3⟩ := d
  obtain ⟨x0, x1, x2, x3, rfl, h0, h1, h2, h3⟩ := hv
  simp only [Dr.row] at h0 h1 h2 h3 hb0 hb1 hb2 hb3 t0 t1 t2 t3
  clear hte hb
  obtain ⟨_, _, rfl⟩ := h0.shape
  obtain ⟨_, _, rfl⟩ := h1.shape
  obtain ⟨_, _, rfl⟩ := h2.shape
  obtain ⟨_, _, rfl⟩ := h3.shape
  unfold drV spoV sloV
  refine Does_of_W Try.func37 rfl (n := 53) rfl rfl (by simp only [argE, Nat.reduceAdd] <;> rfl) ?_
  (repeat (first | refine W_seq ?_))
  refine W_region rfl ?_
  (refine WL_box rfl rfl rfl rfl rfl rfl ?_; intro b_)
  generalize b_ = p3
  (refine WL_box rfl rfl rfl rfl rfl rfl ?_; intro b_)
  generalize b_ = p4
  (refine WL_box rfl rfl rfl rfl rfl rfl ?_; intro b_)
  generalize b_ = p5
  (refine WL_alloc rfl rfl rfl rfl rfl rfl ?_; intro b_)
  (repeat (first | refine WL_nil ?_ | refine Then_normal ?_ | refine W_seq ?_))
  generalize b_ = p6
  skip
  refine W_region rfl ?_
  refine WL_is (X_fieldAddr rfl rfl rfl (by simp only [Nat.zero_add] <;> rfl)) rfl rfl rfl ?_
  refine WL_is (X_loadA rfl rfl (by exact idx3) rfl rfl rfl) rfl rfl rfl ?_
  refine WL_is (X_move rfl rfl) rfl rfl rfl ?_
  (repeat (first | refine WL_nil ?_ | refine Then_normal ?_ | refine W_block ?_))
  refine W_rounds 5 ?_
  (repeat (first | refine WR_succ ?_ | refine W_seq ?_))
  refine W_region rfl ?_
  refine WL_is (X_lss_t rfl rfl rfl (by omega)) rfl rfl rfl ?_
  (repeat (first | refine WL_nil ?_ | refine Then_normal ?_ | refine W_seq ?_ | refine W_skip ?_ | refine W_block ?_ | refine W_true rfl ?_))
  skip
  refine W_region rfl ?_
  refine WL_is (X_move rfl rfl) rfl rfl rfl ?_
  refine WL_is (X_index_val rfl rfl rfl rfl rfl rfl (by omega) (by omega) rfl) rfl rfl rfl ?_
  refine WL_is (X_assign rfl rfl) rfl rfl rfl ?_
  refine WL_is (X_assign rfl rfl) rfl rfl rfl ?_
  (repeat (first | refine WL_nil ?_ | refine Then_normal ?_))
  skip
  refine W_region rfl ?_
  refine WL_is (X_move rfl rfl) rfl rfl rfl ?_
  refine WL_is (X_move rfl rfl) rfl rfl rfl ?_
  refine WL_call rfl rfl rfl Try.func44 rfl rfl rfl rfl (cloneC_fn _ _ _ h0 hb0) ?_
  rintro _ _ G0 L0 ⟨⟨a0, c0, rfl⟩, rfl⟩
  simp only [List.cons_append, List.nil_append]
  refine WL_is (X_fieldAddr rfl rfl rfl (by simp only [Nat.zero_add] <;> rfl)) rfl rfl rfl ?_
  refine WL_is (X_index_arr (sz := 1) rfl rfl rfl rfl rfl (by omega) (by omega) (by simp only [Nat.zero_add, Int.toNat_zero, Nat.mul_one] <;> rfl)) rfl rfl rfl ?_
  refine WL_store rfl rfl rfl (by exact idx4) rfl rfl rfl rfl rfl rfl rfl rfl rfl ?_
  (repeat (first | refine WL_nil ?_ | refine Then_normal ?_ | refine inBlk_normal ?_))
  skip
  refine W_region rfl ?_
  refine WL_is (X_addW rfl rfl rfl (by refine wrapL (by simp only [Int.reduceAdd] <;> rfl) ?_; decide)) rfl rfl rfl ?_
  refine WL_is (X_move rfl rfl) rfl rfl rfl ?_
  (repeat (first | refine WL_nil ?_ | refine WR_succ ?_ | refine Then_normal ?_ | refine W_seq ?_))
  skip
  replace h0 := h0.mono L0
  replace h1 := h1.mono L0
  replace h2 := h2.mono L0
  replace h3 := h3.mono L0
  skip
  refine W_region rfl ?_
  refine WL_is (X_lss_t rfl rfl rfl (by omega)) rfl rfl rfl ?_
  (repeat (first | refine WL_nil ?_ | refine Then_normal ?_ | refine W_seq ?_ | refine W_skip ?_ | refine W_block ?_ | refine W_true rfl ?_))
  skip
  refine W_region rfl ?_
  refine WL_is (X_move rfl rfl) rfl rfl rfl ?_
  refine WL_is (X_index_val rfl rfl rfl rfl rfl rfl (by omega) (by omega) rfl) rfl rfl rfl ?_
  refine WL_is (X_assign rfl rfl) rfl rfl rfl ?_
  refine WL_is (X_assign rfl rfl) rfl rfl rfl ?_
  (repeat (first | refine WL_nil ?_ | refine Then_normal ?_))
  skip
  refine W_region rfl ?_
  refine WL_is (X_move rfl rfl) rfl rfl rfl ?_
  refine WL_is (X_move rfl rfl) rfl rfl rfl ?_
  refine WL_call rfl rfl rfl Try.func44 rfl rfl rfl rfl (cloneC_fn _ _ _ h1 hb1) ?_
  rintro _ _ G1 L1 ⟨⟨a1, c1, rfl⟩, rfl⟩
  simp only [List.cons_append, List.nil_append]
  refine WL_is (X_fieldAddr rfl rfl rfl (by simp only [Nat.zero_add] <;> rfl)) rfl rfl rfl ?_
  refine WL_is (X_index_arr (sz := 1) rfl rfl rfl rfl rfl (by omega) (by omega) (by simp only [Nat.zero_add, Int.toNat_one, Nat.mul_one] <;> rfl)) rfl rfl rfl ?_
  refine WL_store rfl rfl rfl (by exact idx5) rfl rfl rfl rfl rfl rfl rfl rfl rfl ?_
  (repeat (first | refine WL_nil ?_ | refine Then_normal ?_ | refine inBlk_normal ?_))
  skip
  refine W_region rfl ?_
  refine WL_is (X_addW rfl rfl rfl (by refine wrapL (by simp only [Int.reduceAdd] <;> rfl) ?_; decide)) rfl rfl rfl ?_
  refine WL_is (X_move rfl rfl) rfl rfl rfl ?_
  (repeat (first | refine WL_nil ?_ | refine WR_succ ?_ | refine Then_normal ?_ | refine W_seq ?_))
  skip
  replace h0 := h0.mono L1
  replace h1 := h1.mono L1
  replace h2 := h2.mono L1
  replace h3 := h3.mono L1
  skip
  refine W_region rfl ?_
  refine WL_is (X_lss_t rfl rfl rfl (by omega)) rfl rfl rfl ?_
  (repeat (first | refine WL_nil ?_ | refine Then_normal ?_ | refine W_seq ?_ | refine W_skip ?_ | refine W_block ?_ | refine W_true rfl ?_))
  skip
  refine W_region rfl ?_
  refine WL_is (X_move rfl rfl) rfl rfl rfl ?_
  refine WL_is (X_index_val rfl rfl rfl rfl rfl rfl (by omega) (by omega) rfl) rfl rfl rfl ?_
  refine WL_is (X_assign rfl rfl) rfl rfl rfl ?_
  refine WL_is (X_assign rfl rfl) rfl rfl rfl ?_
  (repeat (first | refine WL_nil ?_ | refine Then_normal ?_))
  skip
  refine W_region rfl ?_
  refine WL_is (X_move rfl rfl) rfl rfl rfl ?_
  refine WL_is (X_move rfl rfl) rfl rfl rfl ?_
  refine WL_call rfl rfl rfl Try.func44 rfl rfl rfl rfl (cloneC_fn _ _ _ h2 hb2) ?_
  rintro _ _ G2 L2 ⟨⟨a2, c2, rfl⟩, rfl⟩
  simp only [List.cons_append, List.nil_append]
  refine WL_is (X_fieldAddr rfl rfl rfl (by simp only [Nat.zero_add] <;> rfl)) rfl rfl rfl ?_
  refine WL_is (X_index_arr (sz := 1) rfl rfl rfl rfl rfl (by omega) (by omega) (by simp only [Nat.zero_add, Int.reduceToNat, Nat.mul_one] <;> rfl)) rfl rfl rfl ?_
  refine WL_store rfl rfl rfl (by exact idx6) rfl rfl rfl rfl rfl rfl rfl rfl rfl ?_
  (repeat (first | refine WL_nil ?_ | refine Then_normal ?_ | refine inBlk_normal ?_))
  skip
  refine W_region rfl ?_
  refine WL_is (X_addW rfl rfl rfl (by refine wrapL (by simp only [Int.reduceAdd] <;> rfl) ?_; decide)) rfl rfl rfl ?_
  refine WL_is (X_move rfl rfl) rfl rfl rfl ?_
  (repeat (first | refine WL_nil ?_ | refine WR_succ ?_ | refine Then_normal ?_ | refine W_seq ?_))
  skip
  replace h0 := h0.mono L2
  replace h1 := h1.mono L2
  replace h2 := h2.mono L2
  replace h3 := h3.mono L2
  skip
  refine W_region rfl ?_
  refine WL_is (X_lss_t rfl rfl rfl (by omega)) rfl rfl rfl ?_
  (repeat (first | refine WL_nil ?_ | refine Then_normal ?_ | refine W_seq ?_ | refine W_skip ?_ | refine W_block ?_ | refine W_true rfl ?_))
  skip
  refine W_region rfl ?_
  refine WL_is (X_move rfl rfl) rfl rfl rfl ?_
  refine WL_is (X_index_val rfl rfl rfl rfl rfl rfl (by omega) (by omega) rfl) rfl rfl rfl ?_
  refine WL_is (X_assign rfl rfl) rfl rfl rfl ?_
  refine WL_is (X_assign rfl rfl) rfl rfl rfl ?_
  (repeat (first | refine WL_nil ?_ | refine Then_normal ?_))
  skip
  refine W_region rfl ?_
  refine WL_is (X_move rfl rfl) rfl rfl rfl ?_
  refine WL_is (X_move rfl rfl) rfl rfl rfl ?_
  refine WL_call rfl rfl rfl Try.func44 rfl rfl rfl rfl (cloneC_fn _ _ _ h3 hb3) ?_
  rintro _ _ G3 L3 ⟨⟨a3, c3, rfl⟩, rfl⟩
  simp only [List.cons_append, List.nil_append]
  refine WL_is (X_fieldAddr rfl rfl rfl (by simp only [Nat.zero_add] <;> rfl)) rfl rfl rfl ?_
  refine WL_is (X_index_arr (sz := 1) rfl rfl rfl rfl rfl (by omega) (by omega) (by simp only [Nat.zero_add, Int.reduceToNat, Nat.mul_one] <;> rfl)) rfl rfl rfl ?_
  refine WL_store rfl rfl rfl (by exact idx7) rfl rfl rfl rfl rfl rfl rfl rfl rfl ?_
  (repeat (first | refine WL_nil ?_ | refine Then_normal ?_ | refine inBlk_normal ?_))
  skip
  refine W_region rfl ?_
  refine WL_is (X_addW rfl rfl rfl (by refine wrapL (by simp only [Int.reduceAdd] <;> rfl) ?_; decide)) rfl rfl rfl ?_
  refine WL_is (X_move rfl rfl) rfl rfl rfl ?_
  (repeat (first | refine WL_nil ?_ | refine WR_succ ?_ | refine Then_normal ?_ | refine W_seq ?_))
  skip
  replace h0 := h0.mono L3
  replace h1 := h1.mono L3
  replace h2 := h2.mono L3
  replace h3 := h3.mono L3
  skip
  refine W_region rfl ?_
  refine WL_is (X_lss_f rfl rfl rfl (by omega)) rfl rfl rfl ?_
  (repeat (first | refine WL_nil ?_ | refine Then_normal ?_ | refine W_seq ?_ | refine W_exit ?_ | refine Then_exit ?_ | refine inBlk_here ?_ | refine W_false rfl ?_))
  have hkk : k = 0 ∨ k = 1 ∨ k = 2 ∨ k = 3 := by omega
  rcases hkk with rfl | rfl | rfl | rfl
  · change c ≤ b0.length at hc
    skip
    refine W_region rfl ?_
    refine WL_is (X_fieldAddr rfl rfl rfl (by simp only [Nat.zero_add] <;> rfl)) rfl rfl rfl ?_
    refine WL_is (X_load1 rfl rfl (by exact idx6) rfl rfl) rfl rfl rfl ?_
    refine WL_is (X_fieldAddr rfl rfl rfl (by simp only [Nat.zero_add] <;> rfl)) rfl rfl rfl ?_
    refine WL_is (X_index_arr (sz := 1) rfl rfl rfl rfl rfl (by omega) (by omega) (by simp only [Nat.zero_add, Int.toNat_natCast, Nat.mul_one] <;> rfl)) rfl rfl rfl ?_
    refine WL_is (X_assign rfl rfl) rfl rfl rfl ?_
    (repeat (first | refine WL_nil ?_ | refine Then_normal ?_ | refine W_seq ?_))
    skip
    refine W_draw0 6 rfl rfl rfl rfl ?_
    refine RG_val rfl rfl (fun _ => rfl) (fun _ => X_fieldAddr rfl rfl rfl (by simp only [Nat.zero_add] <;> rfl)) ?_
    refine RG_val rfl rfl (fun _ => rfl) (fun _ => X_load1 rfl rfl (by exact idx6) rfl rfl) ?_
    refine RG_val rfl rfl (fun _ => rfl) (fun _ => X_move rfl rfl) ?_
    refine RG_val rfl rfl (fun _ => rfl) (fun _ => X_nilCheck rfl rfl) ?_
    refine RG_val rfl rfl (fun _ => rfl) (fun _ => X_load1 rfl rfl (by exact idx7) rfl rfl) ?_
    refine RG_val rfl rfl (fun _ => rfl) (fun _ => X_len rfl rfl rfl) ?_
    refine RG_nil ?_
    refine RG_endv rfl (fun vs => by simp only [endE, List.cons_append, List.nil_append] <;> rfl) (fun vs => rfl) ?_
    refine WL_is (X_eql rfl rfl rfl) rfl rfl rfl ?_
    refine WL_nil ?_
    refine Then_normal ?_
    refine W_cutT (X := WX) (L := fun x => ⟨[(3, .pointer (some ⟨p3, 0, none⟩)), (4, .pointer (some ⟨p4, 0, none⟩)), (5, .pointer (some ⟨p5, 0, none⟩)), (6, .pointer (some ⟨p6, 0, none⟩)), (9, .pointer (some ⟨p3, 0, none⟩))], [], [rowL encChu (.slice x.a x.r.length x.cp) 67 31 x.r, rowL encChu (.slice a3 b3.length c3) 67 31 b3, rowL encChu (.slice a2 b2.length c2) 67 31 b2, rowL encChu (.slice a1 b1.length c1) 67 31 b1, blk p6 [.slice none 0 0, .slice none 0 0, .slice none 0 0, .slice none 0 0] 25, blk p5 (encSlo y) 34, blk p4 [.int .i64 (0 : Int), .int .i64 (c : Int), .int .i64 (s : Int)] 32, blk p3 [.slice x.a x.r.length x.cp, .slice a1 b1.length c1, .slice a2 b2.length c2, .slice a3 b3.length c3] 25], x.g⟩) (p := fun x => x.r = grow b0 c ∧ le G3 x.g) ?_ ?_
    · refine W_if (p := (c : Int) = (b0.length : Int)) rfl ?_ ?_
      · intro hce
        have hce' : c = b0.length := by omega
        skip
        refine W_region rfl ?_
        refine WL_is (X_move rfl rfl) rfl rfl rfl ?_
        refine WL_is (X_move rfl rfl) rfl rfl rfl ?_
        refine WL_is (X_nilCheck rfl rfl) rfl rfl rfl ?_
        refine WL_is (X_load1 rfl rfl (by exact idx7) rfl rfl) rfl rfl rfl ?_
        refine WL_is (X_build rfl rfl rfl) rfl rfl rfl ?_
        refine WL_buildSl (enc := encChu) [chu0] (lensC (fun x hx => by rw [List.mem_singleton.1 hx]; rfl)) rfl rfl rfl rfl rfl rfl rfl rfl rfl rfl rfl rfl rfl rfl rfl ?_
        intro u H5 M5 hu
        refine WL_append (enc := encChu) (L := b0) (L' := [chu0]) (i := 3) rfl rfl rfl elemC rfl rfl (Src.sl hu) (flatC _) (by simp only [List.length_singleton]; omega) (by simp only [List.length_singleton]; omega) rfl rfl rfl ?_
        intro v3
        simp only [List.set_cons_zero, List.set_cons_succ]
        refine WL_updE (UpdE.shapeL 3 rfl) ?_
        rintro _ _ - ⟨rfl, rfl, xa2, xc2, rfl⟩
        refine WL_is (X_nilCheck rfl rfl) rfl rfl rfl ?_
        refine WL_store rfl rfl rfl (by exact idx7) rfl rfl rfl rfl rfl rfl rfl rfl rfl ?_
        (repeat (first | refine WL_nil ?_ | refine Then_normal ?_))
        exact ⟨⟨xa2, xc2, b0 ++ [chu0], _⟩, ⟨(by repeat (first | exact SubE_nil | refine SubE_cons rfl ?_)), rfl, SubR_pick 3 rfl (SubR.refl _), rfl⟩, by unfold grow; rw [if_pos hce'], M5⟩
      · intro hce
        refine W_skip ?_
        refine Then_normal ?_
        exact ⟨⟨a0, c0, b0, G3⟩, ⟨(by repeat (first | exact SubE_nil | refine SubE_cons rfl ?_)), rfl, SubR_pick 3 rfl (SubR.refl _), rfl⟩, by unfold grow; rw [if_neg (by omega)], le.refl _⟩
    · rintro ⟨xa, xc, r, g⟩ ⟨hr, hg⟩
      dsimp only at hr hg ⊢
      have hcr : c < r.length := by rw [hr]; unfold grow; split <;> (try simp only [List.length_append, List.length_singleton]) <;> omega
      have hrt : tenR r := by rw [hr]; exact ten_grow t0 c
      have hcs : (r[c]).sl.length = 10 := hrt _ (List.getElem_mem hcr)
      have hset : setRw b0 c s y = r.set c (setC r[c] s y) := by
        unfold setRw; rw [← hr, List.getElem?_eq_getElem hcr]; rfl
      have hrt2 : tenR (r.set c (setC r[c] s y)) := by rw [← hset]; exact ten_setRw t0 c s y
      refine W_updE (UpdE.shapePos 0 rfl (by omega)) ?_
      rintro _ _ - ⟨rfl, rfl, bb, rfl⟩
      (repeat (first | refine W_seq ?_))
      refine W_draw0 10 rfl rfl rfl rfl ?_
      refine RG_val rfl rfl (fun _ => rfl) (fun _ => X_move rfl rfl) ?_
      refine RG_val rfl rfl (fun _ => rfl) (fun _ => X_nilCheck rfl rfl) ?_
      refine RG_val rfl rfl (fun _ => rfl) (fun _ => X_load1 rfl rfl (by exact idx7) rfl rfl) ?_
      refine RG_val rfl rfl (fun _ => rfl) (fun _ => X_fieldAddr rfl rfl rfl (by simp only [Nat.zero_add] <;> rfl)) ?_
      refine RG_val rfl rfl (fun _ => rfl) (fun _ => X_load1 rfl rfl (by exact idx6) rfl rfl) ?_
      refine RG_val rfl rfl (fun _ => rfl) (fun _ => X_fieldAddr rfl rfl rfl (by simp only [Nat.zero_add] <;> rfl)) ?_
      refine RG_val rfl rfl (fun _ => rfl) (fun _ => X_load1 rfl rfl (by exact idx6) rfl rfl) ?_
      refine RG_val rfl rfl (fun _ => rfl) (fun _ => X_loadA rfl rfl (by exact idx5) rfl rfl rfl) ?_
      refine RG_val rfl rfl (fun _ => rfl) (fun _ => X_index_row rfl rfl (by exact idx0) rfl rfl rfl (by omega)) ?_
      refine RG_val rfl rfl (fun _ => rfl) (fun _ => X_fieldAddr_spot rfl rfl rfl (by simp only [Nat.zero_add] <;> rfl)) ?_
      refine RG_nil ?_
      refine RG_endv rfl (fun vs => by simp only [endE, List.cons_append, List.nil_append] <;> rfl) (fun vs => rfl) ?_
      refine WL_is (X_index_arrin (s := 3) (a' := 1 + s * 3) rfl rfl rfl rfl rfl (by omega) (by omega) (by simp only [Int.toNat_natCast])) rfl rfl rfl ?_
      refine WL_store_spotL (k := 3) (enc := encChu) (vs := encSlo y) (x' := setC r[c] s y) (lensC hrt) (lenC (ten_setC hcs s y)) rfl rfl rfl idx0 rfl rfl rfl rfl rfl (by omega) hcr (wr_chu _ y (by omega)) rfl rfl rfl ?_
      (repeat (first | refine WL_nil ?_ | refine Then_normal ?_ | refine W_seq ?_))
      skip
      refine W_region rfl ?_
      refine WL_is (X_loadA rfl rfl (by exact idx7) rfl rfl rfl) rfl rfl rfl ?_
      refine WL_store rfl rfl rfl (by exact idx4) rfl rfl rfl rfl rfl rfl rfl rfl rfl ?_
      (repeat (first | refine WL_nil ?_ | refine Then_normal ?_ | refine W_ret ?_))
      refine Body_vals (.cons (.cellA rfl idx4 rfl rfl rfl) .nil) rfl ?_
      refine (UpdE.row (enc := encChu) 0 rfl (lensC hrt2)).then ?_
      rintro _ U0 N0 ⟨rfl, w0⟩
      simp only [List.eraseIdx_cons_zero]
      refine (UpdE.row (enc := encChu) 0 rfl (lensC t3)).then ?_
      rintro _ U3 N3 ⟨rfl, w3⟩
      simp only [List.eraseIdx_cons_zero]
      refine (UpdE.row (enc := encChu) 0 rfl (lensC t2)).then ?_
      rintro _ U2 N2 ⟨rfl, w2⟩
      simp only [List.eraseIdx_cons_zero]
      refine (UpdE.row (enc := encChu) 0 rfl (lensC t1)).then ?_
      rintro _ U1 N1 ⟨rfl, w1⟩
      simp only [List.eraseIdx_cons_zero]
      refine UpdE.of (Upd.sub (SubR.none _)) ⟨⟨_, _, _, _, rfl, ?_, ?_, ?_, ?_⟩, rfl⟩
      · rw [show (withD ⟨b0, b1, b2, b3⟩ 0 c s y).b0 = _ from hset]; exact (((w0.mono N3).mono N2).mono N1)
      · exact w1
      · exact (w2.mono N1)
      · exact ((w3.mono N2).mono N1)
  · change c ≤ b1.length at hc
    skip
    refine W_region rfl ?_
    refine WL_is (X_fieldAddr rfl rfl rfl (by simp only [Nat.zero_add] <;> rfl)) rfl rfl rfl ?_
    refine WL_is (X_load1 rfl rfl (by exact idx6) rfl rfl) rfl rfl rfl ?_
    refine WL_is (X_fieldAddr rfl rfl rfl (by simp only [Nat.zero_add] <;> rfl)) rfl rfl rfl ?_
    refine WL_is (X_index_arr (sz := 1) rfl rfl rfl rfl rfl (by omega) (by omega) (by simp only [Nat.zero_add, Int.toNat_natCast, Nat.mul_one] <;> rfl)) rfl rfl rfl ?_
    refine WL_is (X_assign rfl rfl) rfl rfl rfl ?_
    (repeat (first | refine WL_nil ?_ | refine Then_normal ?_ | refine W_seq ?_))
    skip
    refine W_draw0 6 rfl rfl rfl rfl ?_
    refine RG_val rfl rfl (fun _ => rfl) (fun _ => X_fieldAddr rfl rfl rfl (by simp only [Nat.zero_add] <;> rfl)) ?_
    refine RG_val rfl rfl (fun _ => rfl) (fun _ => X_load1 rfl rfl (by exact idx6) rfl rfl) ?_
    refine RG_val rfl rfl (fun _ => rfl) (fun _ => X_move rfl rfl) ?_
    refine RG_val rfl rfl (fun _ => rfl) (fun _ => X_nilCheck rfl rfl) ?_
    refine RG_val rfl rfl (fun _ => rfl) (fun _ => X_load1 rfl rfl (by exact idx7) rfl rfl) ?_
    refine RG_val rfl rfl (fun _ => rfl) (fun _ => X_len rfl rfl rfl) ?_
    refine RG_nil ?_
    refine RG_endv rfl (fun vs => by simp only [endE, List.cons_append, List.nil_append] <;> rfl) (fun vs => rfl) ?_
    refine WL_is (X_eql rfl rfl rfl) rfl rfl rfl ?_
    refine WL_nil ?_
    refine Then_normal ?_
    refine W_cutT (X := WX) (L := fun x => ⟨[(3, .pointer (some ⟨p3, 0, none⟩)), (4, .pointer (some ⟨p4, 0, none⟩)), (5, .pointer (some ⟨p5, 0, none⟩)), (6, .pointer (some ⟨p6, 0, none⟩)), (9, .pointer (some ⟨p3, 1, none⟩))], [], [rowL encChu (.slice x.a x.r.length x.cp) 67 31 x.r, rowL encChu (.slice a3 b3.length c3) 67 31 b3, rowL encChu (.slice a2 b2.length c2) 67 31 b2, rowL encChu (.slice a0 b0.length c0) 67 31 b0, blk p6 [.slice none 0 0, .slice none 0 0, .slice none 0 0, .slice none 0 0] 25, blk p5 (encSlo y) 34, blk p4 [.int .i64 (1 : Int), .int .i64 (c : Int), .int .i64 (s : Int)] 32, blk p3 [.slice a0 b0.length c0, .slice x.a x.r.length x.cp, .slice a2 b2.length c2, .slice a3 b3.length c3] 25], x.g⟩) (p := fun x => x.r = grow b1 c ∧ le G3 x.g) ?_ ?_
    · refine W_if (p := (c : Int) = (b1.length : Int)) rfl ?_ ?_
      · intro hce
        have hce' : c = b1.length := by omega
        skip
        refine W_region rfl ?_
        refine WL_is (X_move rfl rfl) rfl rfl rfl ?_
        refine WL_is (X_move rfl rfl) rfl rfl rfl ?_
        refine WL_is (X_nilCheck rfl rfl) rfl rfl rfl ?_
        refine WL_is (X_load1 rfl rfl (by exact idx7) rfl rfl) rfl rfl rfl ?_
        refine WL_is (X_build rfl rfl rfl) rfl rfl rfl ?_
        refine WL_buildSl (enc := encChu) [chu0] (lensC (fun x hx => by rw [List.mem_singleton.1 hx]; rfl)) rfl rfl rfl rfl rfl rfl rfl rfl rfl rfl rfl rfl rfl rfl rfl ?_
        intro u H5 M5 hu
        refine WL_append (enc := encChu) (L := b1) (L' := [chu0]) (i := 2) rfl rfl rfl elemC rfl rfl (Src.sl hu) (flatC _) (by simp only [List.length_singleton]; omega) (by simp only [List.length_singleton]; omega) rfl rfl rfl ?_
        intro v3
        simp only [List.set_cons_zero, List.set_cons_succ]
        refine WL_updE (UpdE.shapeL 2 rfl) ?_
        rintro _ _ - ⟨rfl, rfl, xa2, xc2, rfl⟩
        refine WL_is (X_nilCheck rfl rfl) rfl rfl rfl ?_
        refine WL_store rfl rfl rfl (by exact idx7) rfl rfl rfl rfl rfl rfl rfl rfl rfl ?_
        (repeat (first | refine WL_nil ?_ | refine Then_normal ?_))
        exact ⟨⟨xa2, xc2, b1 ++ [chu0], _⟩, ⟨(by repeat (first | exact SubE_nil | refine SubE_cons rfl ?_)), rfl, SubR_pick 2 rfl (SubR.refl _), rfl⟩, by unfold grow; rw [if_pos hce'], M5⟩
      · intro hce
        refine W_skip ?_
        refine Then_normal ?_
        exact ⟨⟨a1, c1, b1, G3⟩, ⟨(by repeat (first | exact SubE_nil | refine SubE_cons rfl ?_)), rfl, SubR_pick 2 rfl (SubR.refl _), rfl⟩, by unfold grow; rw [if_neg (by omega)], le.refl _⟩
    · rintro ⟨xa, xc, r, g⟩ ⟨hr, hg⟩
      dsimp only at hr hg ⊢
      have hcr : c < r.length := by rw [hr]; unfold grow; split <;> (try simp only [List.length_append, List.length_singleton]) <;> omega
      have hrt : tenR r := by rw [hr]; exact ten_grow t1 c
      have hcs : (r[c]).sl.length = 10 := hrt _ (List.getElem_mem hcr)
      have hset : setRw b1 c s y = r.set c (setC r[c] s y) := by
        unfold setRw; rw [← hr, List.getElem?_eq_getElem hcr]; rfl
      have hrt2 : tenR (r.set c (setC r[c] s y)) := by rw [← hset]; exact ten_setRw t1 c s y
      refine W_updE (UpdE.shapePos 0 rfl (by omega)) ?_
      rintro _ _ - ⟨rfl, rfl, bb, rfl⟩
      (repeat (first | refine W_seq ?_))
      refine W_draw0 10 rfl rfl rfl rfl ?_
      refine RG_val rfl rfl (fun _ => rfl) (fun _ => X_move rfl rfl) ?_
      refine RG_val rfl rfl (fun _ => rfl) (fun _ => X_nilCheck rfl rfl) ?_
      refine RG_val rfl rfl (fun _ => rfl) (fun _ => X_load1 rfl rfl (by exact idx7) rfl rfl) ?_
      refine RG_val rfl rfl (fun _ => rfl) (fun _ => X_fieldAddr rfl rfl rfl (by simp only [Nat.zero_add] <;> rfl)) ?_
      refine RG_val rfl rfl (fun _ => rfl) (fun _ => X_load1 rfl rfl (by exact idx6) rfl rfl) ?_
      refine RG_val rfl rfl (fun _ => rfl) (fun _ => X_fieldAddr rfl rfl rfl (by simp only [Nat.zero_add] <;> rfl)) ?_
      refine RG_val rfl rfl (fun _ => rfl) (fun _ => X_load1 rfl rfl (by exact idx6) rfl rfl) ?_
      refine RG_val rfl rfl (fun _ => rfl) (fun _ => X_loadA rfl rfl (by exact idx5) rfl rfl rfl) ?_
      refine RG_val rfl rfl (fun _ => rfl) (fun _ => X_index_row rfl rfl (by exact idx0) rfl rfl rfl (by omega)) ?_
      refine RG_val rfl rfl (fun _ => rfl) (fun _ => X_fieldAddr_spot rfl rfl rfl (by simp only [Nat.zero_add] <;> rfl)) ?_
      refine RG_nil ?_
      refine RG_endv rfl (fun vs => by simp only [endE, List.cons_append, List.nil_append] <;> rfl) (fun vs => rfl) ?_
      refine WL_is (X_index_arrin (s := 3) (a' := 1 + s * 3) rfl rfl rfl rfl rfl (by omega) (by omega) (by simp only [Int.toNat_natCast])) rfl rfl rfl ?_
      refine WL_store_spotL (k := 3) (enc := encChu) (vs := encSlo y) (x' := setC r[c] s y) (lensC hrt) (lenC (ten_setC hcs s y)) rfl rfl rfl idx0 rfl rfl rfl rfl rfl (by omega) hcr (wr_chu _ y (by omega)) rfl rfl rfl ?_
      (repeat (first | refine WL_nil ?_ | refine Then_normal ?_ | refine W_seq ?_))
      skip
      refine W_region rfl ?_
      refine WL_is (X_loadA rfl rfl (by exact idx7) rfl rfl rfl) rfl rfl rfl ?_
      refine WL_store rfl rfl rfl (by exact idx4) rfl rfl rfl rfl rfl rfl rfl rfl rfl ?_
      (repeat (first | refine WL_nil ?_ | refine Then_normal ?_ | refine W_ret ?_))
      refine Body_vals (.cons (.cellA rfl idx4 rfl rfl rfl) .nil) rfl ?_
      refine (UpdE.row (enc := encChu) 0 rfl (lensC hrt2)).then ?_
      rintro _ U1 N1 ⟨rfl, w1⟩
      simp only [List.eraseIdx_cons_zero]
      refine (UpdE.row (enc := encChu) 0 rfl (lensC t3)).then ?_
      rintro _ U3 N3 ⟨rfl, w3⟩
      simp only [List.eraseIdx_cons_zero]
      refine (UpdE.row (enc := encChu) 0 rfl (lensC t2)).then ?_
      rintro _ U2 N2 ⟨rfl, w2⟩
      simp only [List.eraseIdx_cons_zero]
      refine (UpdE.row (enc := encChu) 0 rfl (lensC t0)).then ?_
      rintro _ U0 N0 ⟨rfl, w0⟩
      simp only [List.eraseIdx_cons_zero]
      refine UpdE.of (Upd.sub (SubR.none _)) ⟨⟨_, _, _, _, rfl, ?_, ?_, ?_, ?_⟩, rfl⟩
      · exact w0
      · rw [show (withD ⟨b0, b1, b2, b3⟩ 1 c s y).b1 = _ from hset]; exact (((w1.mono N3).mono N2).mono N0)
      · exact (w2.mono N0)
      · exact ((w3.mono N2).mono N0)
  · change c ≤ b2.length at hc
    skip
    refine W_region rfl ?_
    refine WL_is (X_fieldAddr rfl rfl rfl (by simp only [Nat.zero_add] <;> rfl)) rfl rfl rfl ?_
    refine WL_is (X_load1 rfl rfl (by exact idx6) rfl rfl) rfl rfl rfl ?_
    refine WL_is (X_fieldAddr rfl rfl rfl (by simp only [Nat.zero_add] <;> rfl)) rfl rfl rfl ?_
    refine WL_is (X_index_arr (sz := 1) rfl rfl rfl rfl rfl (by omega) (by omega) (by simp only [Nat.zero_add, Int.toNat_natCast, Nat.mul_one] <;> rfl)) rfl rfl rfl ?_
    refine WL_is (X_assign rfl rfl) rfl rfl rfl ?_
    (repeat (first | refine WL_nil ?_ | refine Then_normal ?_ | refine W_seq ?_))
    skip
    refine W_draw0 6 rfl rfl rfl rfl ?_
    refine RG_val rfl rfl (fun _ => rfl) (fun _ => X_fieldAddr rfl rfl rfl (by simp only [Nat.zero_add] <;> rfl)) ?_
    refine RG_val rfl rfl (fun _ => rfl) (fun _ => X_load1 rfl rfl (by exact idx6) rfl rfl) ?_
    refine RG_val rfl rfl (fun _ => rfl) (fun _ => X_move rfl rfl) ?_
    refine RG_val rfl rfl (fun _ => rfl) (fun _ => X_nilCheck rfl rfl) ?_
    refine RG_val rfl rfl (fun _ => rfl) (fun _ => X_load1 rfl rfl (by exact idx7) rfl rfl) ?_
    refine RG_val rfl rfl (fun _ => rfl) (fun _ => X_len rfl rfl rfl) ?_
    refine RG_nil ?_
    refine RG_endv rfl (fun vs => by simp only [endE, List.cons_append, List.nil_append] <;> rfl) (fun vs => rfl) ?_
    refine WL_is (X_eql rfl rfl rfl) rfl rfl rfl ?_
    refine WL_nil ?_
    refine Then_normal ?_
    refine W_cutT (X := WX) (L := fun x => ⟨[(3, .pointer (some ⟨p3, 0, none⟩)), (4, .pointer (some ⟨p4, 0, none⟩)), (5, .pointer (some ⟨p5, 0, none⟩)), (6, .pointer (some ⟨p6, 0, none⟩)), (9, .pointer (some ⟨p3, 2, none⟩))], [], [rowL encChu (.slice x.a x.r.length x.cp) 67 31 x.r, rowL encChu (.slice a3 b3.length c3) 67 31 b3, rowL encChu (.slice a1 b1.length c1) 67 31 b1, rowL encChu (.slice a0 b0.length c0) 67 31 b0, blk p6 [.slice none 0 0, .slice none 0 0, .slice none 0 0, .slice none 0 0] 25, blk p5 (encSlo y) 34, blk p4 [.int .i64 (2 : Int), .int .i64 (c : Int), .int .i64 (s : Int)] 32, blk p3 [.slice a0 b0.length c0, .slice a1 b1.length c1, .slice x.a x.r.length x.cp, .slice a3 b3.length c3] 25], x.g⟩) (p := fun x => x.r = grow b2 c ∧ le G3 x.g) ?_ ?_
    · refine W_if (p := (c : Int) = (b2.length : Int)) rfl ?_ ?_
      · intro hce
        have hce' : c = b2.length := by omega
        skip
        refine W_region rfl ?_
        refine WL_is (X_move rfl rfl) rfl rfl rfl ?_
        refine WL_is (X_move rfl rfl) rfl rfl rfl ?_
        refine WL_is (X_nilCheck rfl rfl) rfl rfl rfl ?_
        refine WL_is (X_load1 rfl rfl (by exact idx7) rfl rfl) rfl rfl rfl ?_
        refine WL_is (X_build rfl rfl rfl) rfl rfl rfl ?_
        refine WL_buildSl (enc := encChu) [chu0] (lensC (fun x hx => by rw [List.mem_singleton.1 hx]; rfl)) rfl rfl rfl rfl rfl rfl rfl rfl rfl rfl rfl rfl rfl rfl rfl ?_
        intro u H5 M5 hu
        refine WL_append (enc := encChu) (L := b2) (L' := [chu0]) (i := 1) rfl rfl rfl elemC rfl rfl (Src.sl hu) (flatC _) (by simp only [List.length_singleton]; omega) (by simp only [List.length_singleton]; omega) rfl rfl rfl ?_
        intro v3
        simp only [List.set_cons_zero, List.set_cons_succ]
        refine WL_updE (UpdE.shapeL 1 rfl) ?_
        rintro _ _ - ⟨rfl, rfl, xa2, xc2, rfl⟩
        refine WL_is (X_nilCheck rfl rfl) rfl rfl rfl ?_
        refine WL_store rfl rfl rfl (by exact idx7) rfl rfl rfl rfl rfl rfl rfl rfl rfl ?_
        (repeat (first | refine WL_nil ?_ | refine Then_normal ?_))
        exact ⟨⟨xa2, xc2, b2 ++ [chu0], _⟩, ⟨(by repeat (first | exact SubE_nil | refine SubE_cons rfl ?_)), rfl, SubR_pick 1 rfl (SubR.refl _), rfl⟩, by unfold grow; rw [if_pos hce'], M5⟩
      · intro hce
        refine W_skip ?_
        refine Then_normal ?_
        exact ⟨⟨a2, c2, b2, G3⟩, ⟨(by repeat (first | exact SubE_nil | refine SubE_cons rfl ?_)), rfl, SubR_pick 1 rfl (SubR.refl _), rfl⟩, by unfold grow; rw [if_neg (by omega)], le.refl _⟩
    · rintro ⟨xa, xc, r, g⟩ ⟨hr, hg⟩
      dsimp only at hr hg ⊢
      have hcr : c < r.length := by rw [hr]; unfold grow; split <;> (try simp only [List.length_append, List.length_singleton]) <;> omega
      have hrt : tenR r := by rw [hr]; exact ten_grow t2 c
      have hcs : (r[c]).sl.length = 10 := hrt _ (List.getElem_mem hcr)
      have hset : setRw b2 c s y = r.set c (setC r[c] s y) := by
        unfold setRw; rw [← hr, List.getElem?_eq_getElem hcr]; rfl
      have hrt2 : tenR (r.set c (setC r[c] s y)) := by rw [← hset]; exact ten_setRw t2 c s y
      refine W_updE (UpdE.shapePos 0 rfl (by omega)) ?_
      rintro _ _ - ⟨rfl, rfl, bb, rfl⟩
      (repeat (first | refine W_seq ?_))
      refine W_draw0 10 rfl rfl rfl rfl ?_
      refine RG_val rfl rfl (fun _ => rfl) (fun _ => X_move rfl rfl) ?_
      refine RG_val rfl rfl (fun _ => rfl) (fun _ => X_nilCheck rfl rfl) ?_
      refine RG_val rfl rfl (fun _ => rfl) (fun _ => X_load1 rfl rfl (by exact idx7) rfl rfl) ?_
      refine RG_val rfl rfl (fun _ => rfl) (fun _ => X_fieldAddr rfl rfl rfl (by simp only [Nat.zero_add] <;> rfl)) ?_
      refine RG_val rfl rfl (fun _ => rfl) (fun _ => X_load1 rfl rfl (by exact idx6) rfl rfl) ?_
      refine RG_val rfl rfl (fun _ => rfl) (fun _ => X_fieldAddr rfl rfl rfl (by simp only [Nat.zero_add] <;> rfl)) ?_
      refine RG_val rfl rfl (fun _ => rfl) (fun _ => X_load1 rfl rfl (by exact idx6) rfl rfl) ?_
      refine RG_val rfl rfl (fun _ => rfl) (fun _ => X_loadA rfl rfl (by exact idx5) rfl rfl rfl) ?_
      refine RG_val rfl rfl (fun _ => rfl) (fun _ => X_index_row rfl rfl (by exact idx0) rfl rfl rfl (by omega)) ?_
      refine RG_val rfl rfl (fun _ => rfl) (fun _ => X_fieldAddr_spot rfl rfl rfl (by simp only [Nat.zero_add] <;> rfl)) ?_
      refine RG_nil ?_
      refine RG_endv rfl (fun vs => by simp only [endE, List.cons_append, List.nil_append] <;> rfl) (fun vs => rfl) ?_
      refine WL_is (X_index_arrin (s := 3) (a' := 1 + s * 3) rfl rfl rfl rfl rfl (by omega) (by omega) (by simp only [Int.toNat_natCast])) rfl rfl rfl ?_
      refine WL_store_spotL (k := 3) (enc := encChu) (vs := encSlo y) (x' := setC r[c] s y) (lensC hrt) (lenC (ten_setC hcs s y)) rfl rfl rfl idx0 rfl rfl rfl rfl rfl (by omega) hcr (wr_chu _ y (by omega)) rfl rfl rfl ?_
      (repeat (first | refine WL_nil ?_ | refine Then_normal ?_ | refine W_seq ?_))
      skip
      refine W_region rfl ?_
      refine WL_is (X_loadA rfl rfl (by exact idx7) rfl rfl rfl) rfl rfl rfl ?_
      refine WL_store rfl rfl rfl (by exact idx4) rfl rfl rfl rfl rfl rfl rfl rfl rfl ?_
      (repeat (first | refine WL_nil ?_ | refine Then_normal ?_ | refine W_ret ?_))
      refine Body_vals (.cons (.cellA rfl idx4 rfl rfl rfl) .nil) rfl ?_
      refine (UpdE.row (enc := encChu) 0 rfl (lensC hrt2)).then ?_
      rintro _ U2 N2 ⟨rfl, w2⟩
      simp only [List.eraseIdx_cons_zero]
      refine (UpdE.row (enc := encChu) 0 rfl (lensC t3)).then ?_
      rintro _ U3 N3 ⟨rfl, w3⟩
      simp only [List.eraseIdx_cons_zero]
      refine (UpdE.row (enc := encChu) 0 rfl (lensC t1)).then ?_
      rintro _ U1 N1 ⟨rfl, w1⟩
      simp only [List.eraseIdx_cons_zero]
      refine (UpdE.row (enc := encChu) 0 rfl (lensC t0)).then ?_
      rintro _ U0 N0 ⟨rfl, w0⟩
      simp only [List.eraseIdx_cons_zero]
      refine UpdE.of (Upd.sub (SubR.none _)) ⟨⟨_, _, _, _, rfl, ?_, ?_, ?_, ?_⟩, rfl⟩
      · exact w0
      · exact (w1.mono N0)
      · rw [show (withD ⟨b0, b1, b2, b3⟩ 2 c s y).b2 = _ from hset]; exact (((w2.mono N3).mono N1).mono N0)
      · exact ((w3.mono N1).mono N0)
  · change c ≤ b3.length at hc
    skip
    refine W_region rfl ?_
    refine WL_is (X_fieldAddr rfl rfl rfl (by simp only [Nat.zero_add] <;> rfl)) rfl rfl rfl ?_
    refine WL_is (X_load1 rfl rfl (by exact idx6) rfl rfl) rfl rfl rfl ?_
    refine WL_is (X_fieldAddr rfl rfl rfl (by simp only [Nat.zero_add] <;> rfl)) rfl rfl rfl ?_
    refine WL_is (X_index_arr (sz := 1) rfl rfl rfl rfl rfl (by omega) (by omega) (by simp only [Nat.zero_add, Int.toNat_natCast, Nat.mul_one] <;> rfl)) rfl rfl rfl ?_
    refine WL_is (X_assign rfl rfl) rfl rfl rfl ?_
    (repeat (first | refine WL_nil ?_ | refine Then_normal ?_ | refine W_seq ?_))
    skip
    refine W_draw0 6 rfl rfl rfl rfl ?_
    refine RG_val rfl rfl (fun _ => rfl) (fun _ => X_fieldAddr rfl rfl rfl (by simp only [Nat.zero_add] <;> rfl)) ?_
    refine RG_val rfl rfl (fun _ => rfl) (fun _ => X_load1 rfl rfl (by exact idx6) rfl rfl) ?_
    refine RG_val rfl rfl (fun _ => rfl) (fun _ => X_move rfl rfl) ?_
    refine RG_val rfl rfl (fun _ => rfl) (fun _ => X_nilCheck rfl rfl) ?_
    refine RG_val rfl rfl (fun _ => rfl) (fun _ => X_load1 rfl rfl (by exact idx7) rfl rfl) ?_
    refine RG_val rfl rfl (fun _ => rfl) (fun _ => X_len rfl rfl rfl) ?_
    refine RG_nil ?_
    refine RG_endv rfl (fun vs => by simp only [endE, List.cons_append, List.nil_append] <;> rfl) (fun vs => rfl) ?_
    refine WL_is (X_eql rfl rfl rfl) rfl rfl rfl ?_
    refine WL_nil ?_
    refine Then_normal ?_
    refine W_cutT (X := WX) (L := fun x => ⟨[(3, .pointer (some ⟨p3, 0, none⟩)), (4, .pointer (some ⟨p4, 0, none⟩)), (5, .pointer (some ⟨p5, 0, none⟩)), (6, .pointer (some ⟨p6, 0, none⟩)), (9, .pointer (some ⟨p3, 3, none⟩))], [], [rowL encChu (.slice x.a x.r.length x.cp) 67 31 x.r, rowL encChu (.slice a2 b2.length c2) 67 31 b2, rowL encChu (.slice a1 b1.length c1) 67 31 b1, rowL encChu (.slice a0 b0.length c0) 67 31 b0, blk p6 [.slice none 0 0, .slice none 0 0, .slice none 0 0, .slice none 0 0] 25, blk p5 (encSlo y) 34, blk p4 [.int .i64 (3 : Int), .int .i64 (c : Int), .int .i64 (s : Int)] 32, blk p3 [.slice a0 b0.length c0, .slice a1 b1.length c1, .slice a2 b2.length c2, .slice x.a x.r.length x.cp] 25], x.g⟩) (p := fun x => x.r = grow b3 c ∧ le G3 x.g) ?_ ?_
    · refine W_if (p := (c : Int) = (b3.length : Int)) rfl ?_ ?_
      · intro hce
        have hce' : c = b3.length := by omega
        skip
        refine W_region rfl ?_
        refine WL_is (X_move rfl rfl) rfl rfl rfl ?_
        refine WL_is (X_move rfl rfl) rfl rfl rfl ?_
        refine WL_is (X_nilCheck rfl rfl) rfl rfl rfl ?_
        refine WL_is (X_load1 rfl rfl (by exact idx7) rfl rfl) rfl rfl rfl ?_
        refine WL_is (X_build rfl rfl rfl) rfl rfl rfl ?_
        refine WL_buildSl (enc := encChu) [chu0] (lensC (fun x hx => by rw [List.mem_singleton.1 hx]; rfl)) rfl rfl rfl rfl rfl rfl rfl rfl rfl rfl rfl rfl rfl rfl rfl ?_
        intro u H5 M5 hu
        refine WL_append (enc := encChu) (L := b3) (L' := [chu0]) (i := 0) rfl rfl rfl elemC rfl rfl (Src.sl hu) (flatC _) (by simp only [List.length_singleton]; omega) (by simp only [List.length_singleton]; omega) rfl rfl rfl ?_
        intro v3
        simp only [List.set_cons_zero]
        refine WL_updE (UpdE.shapeL 0 rfl) ?_
        rintro _ _ - ⟨rfl, rfl, xa2, xc2, rfl⟩
        refine WL_is (X_nilCheck rfl rfl) rfl rfl rfl ?_
        refine WL_store rfl rfl rfl (by exact idx7) rfl rfl rfl rfl rfl rfl rfl rfl rfl ?_
        (repeat (first | refine WL_nil ?_ | refine Then_normal ?_))
        exact ⟨⟨xa2, xc2, b3 ++ [chu0], _⟩, ⟨(by repeat (first | exact SubE_nil | refine SubE_cons rfl ?_)), rfl, SubR_pick 0 rfl (SubR.refl _), rfl⟩, by unfold grow; rw [if_pos hce'], M5⟩
      · intro hce
        refine W_skip ?_
        refine Then_normal ?_
        exact ⟨⟨a3, c3, b3, G3⟩, ⟨(by repeat (first | exact SubE_nil | refine SubE_cons rfl ?_)), rfl, SubR_pick 0 rfl (SubR.refl _), rfl⟩, by unfold grow; rw [if_neg (by omega)], le.refl _⟩
    · rintro ⟨xa, xc, r, g⟩ ⟨hr, hg⟩
      dsimp only at hr hg ⊢
      have hcr : c < r.length := by rw [hr]; unfold grow; split <;> (try simp only [List.length_append, List.length_singleton]) <;> omega
      have hrt : tenR r := by rw [hr]; exact ten_grow t3 c
      have hcs : (r[c]).sl.length = 10 := hrt _ (List.getElem_mem hcr)
      have hset : setRw b3 c s y = r.set c (setC r[c] s y) := by
        unfold setRw; rw [← hr, List.getElem?_eq_getElem hcr]; rfl
      have hrt2 : tenR (r.set c (setC r[c] s y)) := by rw [← hset]; exact ten_setRw t3 c s y
      refine W_updE (UpdE.shapePos 0 rfl (by omega)) ?_
      rintro _ _ - ⟨rfl, rfl, bb, rfl⟩
      (repeat (first | refine W_seq ?_))
      refine W_draw0 10 rfl rfl rfl rfl ?_
      refine RG_val rfl rfl (fun _ => rfl) (fun _ => X_move rfl rfl) ?_
      refine RG_val rfl rfl (fun _ => rfl) (fun _ => X_nilCheck rfl rfl) ?_
      refine RG_val rfl rfl (fun _ => rfl) (fun _ => X_load1 rfl rfl (by exact idx7) rfl rfl) ?_
      refine RG_val rfl rfl (fun _ => rfl) (fun _ => X_fieldAddr rfl rfl rfl (by simp only [Nat.zero_add] <;> rfl)) ?_
      refine RG_val rfl rfl (fun _ => rfl) (fun _ => X_load1 rfl rfl (by exact idx6) rfl rfl) ?_
      refine RG_val rfl rfl (fun _ => rfl) (fun _ => X_fieldAddr rfl rfl rfl (by simp only [Nat.zero_add] <;> rfl)) ?_
      refine RG_val rfl rfl (fun _ => rfl) (fun _ => X_load1 rfl rfl (by exact idx6) rfl rfl) ?_
      refine RG_val rfl rfl (fun _ => rfl) (fun _ => X_loadA rfl rfl (by exact idx5) rfl rfl rfl) ?_
      refine RG_val rfl rfl (fun _ => rfl) (fun _ => X_index_row rfl rfl (by exact idx0) rfl rfl rfl (by omega)) ?_
      refine RG_val rfl rfl (fun _ => rfl) (fun _ => X_fieldAddr_spot rfl rfl rfl (by simp only [Nat.zero_add] <;> rfl)) ?_
      refine RG_nil ?_
      refine RG_endv rfl (fun vs => by simp only [endE, List.cons_append, List.nil_append] <;> rfl) (fun vs => rfl) ?_
      refine WL_is (X_index_arrin (s := 3) (a' := 1 + s * 3) rfl rfl rfl rfl rfl (by omega) (by omega) (by simp only [Int.toNat_natCast])) rfl rfl rfl ?_
      refine WL_store_spotL (k := 3) (enc := encChu) (vs := encSlo y) (x' := setC r[c] s y) (lensC hrt) (lenC (ten_setC hcs s y)) rfl rfl rfl idx0 rfl rfl rfl rfl rfl (by omega) hcr (wr_chu _ y (by omega)) rfl rfl rfl ?_
      (repeat (first | refine WL_nil ?_ | refine Then_normal ?_ | refine W_seq ?_))
      skip
      refine W_region rfl ?_
      refine WL_is (X_loadA rfl rfl (by exact idx7) rfl rfl rfl) rfl rfl rfl ?_
      refine WL_store rfl rfl rfl (by exact idx4) rfl rfl rfl rfl rfl rfl rfl rfl rfl ?_
      (repeat (first | refine WL_nil ?_ | refine Then_normal ?_ | refine W_ret ?_))
      refine Body_vals (.cons (.cellA rfl idx4 rfl rfl rfl) .nil) rfl ?_
      refine (UpdE.row (enc := encChu) 0 rfl (lensC hrt2)).then ?_
      rintro _ U3 N3 ⟨rfl, w3⟩
      simp only [List.eraseIdx_cons_zero]
      refine (UpdE.row (enc := encChu) 0 rfl (lensC t2)).then ?_
      rintro _ U2 N2 ⟨rfl, w2⟩
      simp only [List.eraseIdx_cons_zero]
      refine (UpdE.row (enc := encChu) 0 rfl (lensC t1)).then ?_
      rintro _ U1 N1 ⟨rfl, w1⟩
      simp only [List.eraseIdx_cons_zero]
      refine (UpdE.row (enc := encChu) 0 rfl (lensC t0)).then ?_
      rintro _ U0 N0 ⟨rfl, w0⟩
      simp only [List.eraseIdx_cons_zero]
      refine UpdE.of (Upd.sub (SubR.none _)) ⟨⟨_, _, _, _, rfl, ?_, ?_, ?_, ?_⟩, rfl⟩
      · exact w0
      · exact (w1.mono N0)
      · exact ((w2.mono N1).mono N0)
      · rw [show (withD ⟨b0, b1, b2, b3⟩ 3 c s y).b3 = _ from hset]; exact (((w3.mono N2).mono N1).mono N0)
end Go.Proofs.Ytgpanbmjmpondaa
