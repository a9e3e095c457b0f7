/- Who may do what: the law on other orders of groups. -/
import Derived.Test.YtjampjbhaekjbaaGrantJ
import Derived.Test.YtjampjbhaekjbaaEngJ
namespace Go.Proofs.Ytjampjbhaekjbaa
open Go Go.Par PH
theorem elemU : ElemT Try.prog 23 22 1 2 := ElemT.mk' rfl rfl
theorem flatU (l : List Int) : ∀ x ∈ l, (encU16 x).all flat = true := fun _ _ => rfl
theorem lenU (l : List Int) : ∀ x ∈ l, (encU16 x).length = 1 := fun _ _ => rfl
attribute [local irreducible] W WL Does Exec Body Then inBlk RG WR row obj pblk
attribute [local irreducible] bits
set_option maxHeartbeats 4000000 in
theorem groups_law (h : PH) (c : Cred) (cv : Value) (a : Attr) (v : Value) (dir : Bool) (want at_ : Int) (hc : CredV h cv c) (hv : AttrV h v a) (hok : a.Ok) (hat : u8 at_) :
    Does Try.prog 6 [cv, v, .bool dir, .int .u8 want, .int .u8 at_] [] h (Ret fun r _ _ => r = .bool true) := by
  have c1 := large12_fn h c cv a v hc hv
  have hc' := hc
  have hv' := hv
  have hab := hat
  unfold u8 at hab
  obtain ⟨x, rfl, hx⟩ := hc
  obtain ⟨xa, xc, rfl⟩ := hx.shape
  obtain ⟨_, _, _, _, _, _, _, _, _, _, rfl⟩ := hv.shape
  refine Does_of_W Try.func6 rfl (n := 110) rfl rfl (by simp only [argE, Nat.reduceAdd] <;> rfl) ?_
  (repeat (first | refine W_seq ?_))
  skip
  refine W_region rfl ?_
  (refine WL_box rfl rfl rfl rfl rfl rfl ?_; intro b_)
  (refine WL_box rfl rfl rfl rfl rfl rfl ?_; intro b_)
  refine WL_is (X_assign rfl rfl) rfl rfl rfl ?_
  (repeat (first | refine WL_nil ?_ | refine Then_normal ?_ | refine W_seq ?_))
  skip
  refine W_region rfl ?_
  refine WL_is (X_loadA rfl rfl (by exact idx1) rfl rfl rfl) rfl rfl rfl ?_
  refine WL_is (X_loadA rfl rfl (by exact idx0) rfl rfl rfl) rfl rfl rfl ?_
  refine WL_call rfl rfl rfl Try.func8 rfl rfl rfl rfl c1 ?_
  rintro _ _ H1 L1 ⟨⟨b, rfl, hb⟩, rfl⟩
  simp only [List.nil_append]
  have al := alive_fn H1
  cases b with
  | true =>
    refine WL_is (X_move rfl rfl) rfl rfl rfl ?_
    refine WL_off rfl rfl rfl ?_
    refine WL_off rfl rfl rfl ?_
    refine WL_off rfl rfl rfl ?_
    refine WL_off rfl rfl rfl ?_
    refine WL_is (X_pick_t rfl rfl rfl) rfl rfl rfl ?_
    (repeat (first | refine WL_nil ?_ | refine Then_normal ?_ | refine W_seq ?_ | refine W_true rfl ?_))
    skip
    refine W_region rfl ?_
    refine WL_is (X_callv rfl rfl rfl Try.func9 rfl (by assumption)) rfl rfl rfl ?_
    refine WL_is (X_assign rfl rfl) rfl rfl rfl ?_
    (repeat (first | refine WL_nil ?_ | refine Then_normal ?_ | refine W_ret ?_ | refine Then_ret ?_))
    refine Body_end rfl rfl rfl (SubR.none _) ?_
    rfl
  | false =>
    obtain ⟨ht, h60⟩ := hb rfl
    have hs := ht.small
    have hcl : c.gs.length ≤ 1000 := by omega
    by_cases he : c.gs.length = 0
    · refine WL_is (X_move rfl rfl) rfl rfl rfl ?_
      refine WL_is (X_fieldAddr rfl rfl rfl (by simp only [Nat.zero_add] <;> rfl)) rfl rfl rfl ?_
      refine WL_is (X_load1 rfl rfl (by exact idx1) rfl rfl) rfl rfl rfl ?_
      refine WL_is (X_len rfl rfl rfl) rfl rfl rfl ?_
      refine WL_is (X_eql_t rfl rfl rfl (by omega)) rfl rfl rfl ?_
      refine WL_is (X_pick_f rfl rfl rfl) rfl rfl rfl ?_
      (repeat (first | refine WL_nil ?_ | refine Then_normal ?_ | refine W_seq ?_ | refine W_true rfl ?_))
      skip
      refine W_region rfl ?_
      refine WL_is (X_callv rfl rfl rfl Try.func9 rfl (by assumption)) rfl rfl rfl ?_
      refine WL_is (X_assign rfl rfl) rfl rfl rfl ?_
      (repeat (first | refine WL_nil ?_ | refine Then_normal ?_ | refine W_ret ?_ | refine Then_ret ?_))
      refine Body_end rfl rfl rfl (SubR.none _) ?_
      rfl
    · have hx1 := hx.mono L1
      have hcap := hx1.capLe
      refine WL_is (X_move rfl rfl) rfl rfl rfl ?_
      refine WL_is (X_fieldAddr rfl rfl rfl (by simp only [Nat.zero_add] <;> rfl)) rfl rfl rfl ?_
      refine WL_is (X_load1 rfl rfl (by exact idx1) rfl rfl) rfl rfl rfl ?_
      refine WL_is (X_len_sl rfl rfl rfl (by assumption)) rfl rfl rfl ?_
      refine WL_is (X_eql_f rfl rfl rfl (by omega)) rfl rfl rfl ?_
      refine WL_is (X_pick_f rfl rfl rfl) rfl rfl rfl ?_
      (repeat (first | refine WL_nil ?_ | refine Then_normal ?_ | refine W_seq ?_ | refine W_skip ?_ | refine W_false rfl ?_))
      skip
      refine W_region rfl ?_
      refine WL_is (X_move rfl rfl) rfl rfl rfl ?_
      refine WL_is (X_convW rfl rfl rfl rfl (by exact wrap_i64_in (by omega) (by omega))) rfl rfl rfl ?_
      refine WL_is (X_fieldAddr rfl rfl rfl (by simp only [Nat.zero_add] <;> rfl)) rfl rfl rfl ?_
      refine WL_is (X_load1 rfl rfl (by exact idx1) rfl rfl) rfl rfl rfl ?_
      refine WL_is (X_len_sl rfl rfl rfl (by assumption)) rfl rfl rfl ?_
      refine WL_is (X_rem rfl rfl rfl (by omega) (by omega)) rfl rfl rfl ?_
      refine WL_is (X_assign rfl rfl) rfl rfl rfl ?_
      (repeat (first | refine WL_nil ?_ | refine Then_normal ?_ | refine W_seq ?_))
      obtain ⟨k, hk, hkl⟩ : ∃ k : Nat, at_ % (c.gs.length : Int) = (k : Int) ∧ k < c.gs.length := ⟨(at_ % (c.gs.length : Int)).toNat, by rw [Int.toNat_of_nonneg (Int.emod_nonneg _ (by omega))], by have := Int.emod_lt_of_pos at_ (b := (c.gs.length : Int)) (by omega); have := Int.emod_nonneg at_ (b := (c.gs.length : Int)) (by omega); omega⟩
      rw [hk]
      have hfr := hx1.from (k := k) (by omega)
      have hup := hx1.upto (k := k) (by omega)
      skip
      refine W_region rfl ?_
      refine WL_is (X_loadA rfl rfl (by exact idx1) rfl rfl rfl) rfl rfl rfl ?_
      (refine WL_alloc rfl rfl rfl rfl rfl rfl ?_; intro b_)
      refine WL_store rfl rfl rfl (by exact idx0) rfl rfl rfl rfl rfl rfl rfl rfl rfl ?_
      (repeat (first | refine WL_nil ?_ | refine Then_normal ?_ | refine W_seq ?_))
      skip
      refine W_draw0 9 rfl rfl rfl rfl ?_
      refine RG_val rfl rfl (fun _ => rfl) (fun _ => X_fieldAddr rfl rfl rfl (by simp only [Nat.zero_add] <;> rfl)) ?_
      refine RG_val rfl rfl (fun _ => rfl) (fun _ => X_load1 rfl rfl (by exact idx2) rfl rfl) ?_
      refine RG_val rfl rfl (fun _ => rfl) (fun _ => X_move rfl rfl) ?_
      refine RG_val rfl rfl (fun _ => rfl) (fun _ => X_sliceLoG (sz := 1) rfl rfl rfl rfl rfl (by omega)) ?_
      refine RG_append_nil (enc := encU16) (L' := c.gs.drop k) rfl (fun _ => rfl) (fun _ => rfl) elemU rfl (fun vs h' hl _ => hfr.mono hl) (flatU _) (by simp only [List.length_drop]; omega) (by simp only [List.length_drop]; omega) rfl rfl (fun _ => rfl) ?_
      refine RG_val rfl rfl (fun _ => rfl) (fun _ => X_fieldAddr rfl rfl rfl (by simp only [Nat.zero_add] <;> rfl)) ?_
      refine RG_val rfl rfl (fun _ => rfl) (fun _ => X_load1 rfl rfl (by exact idx2) rfl rfl) ?_
      refine RG_val rfl rfl (fun _ => rfl) (fun _ => X_move rfl rfl) ?_
      refine RG_val rfl rfl (fun _ => rfl) (fun _ => X_sliceHiG (sz := 1) rfl rfl rfl rfl rfl (by omega)) ?_
      refine RG_nil ?_
      refine RG_end rfl (fun vs => by simp only [endE, List.cons_append, List.nil_append] <;> rfl) (fun vs => by simp only [endR, List.cons_append, List.nil_append, List.append_nil] <;> rfl) (fun vs h' hf => hf) ?_
      rintro vs H2 L2 -
      generalize vs 4 = r1
      have hup2 := hup.mono L2
      refine WL_append (enc := encU16) (L := c.gs.drop k) (L' := c.gs.take k) (i := 0) rfl rfl rfl elemU rfl rfl (Src.sl hup2) (flatU _) (by simp only [List.length_drop, List.length_take]; omega) (by simp only [List.length_drop, List.length_take]; omega) rfl rfl rfl ?_
      intro v2
      simp only [List.set_cons_zero]
      refine WL_updE (UpdE.row (enc := encU16) 0 rfl (lenU _)) ?_
      rintro _ H3 L3 ⟨rfl, hd⟩
      obtain ⟨da, dc, rfl⟩ := hd.shape
      simp only [List.eraseIdx_cons_zero]
      refine WL_is (X_fieldAddr rfl rfl rfl (by simp only [Nat.zero_add] <;> rfl)) rfl rfl rfl ?_
      refine WL_store rfl rfl rfl (by exact idx0) rfl rfl rfl rfl rfl rfl rfl rfl rfl ?_
      (repeat (first | refine WL_nil ?_ | refine Then_normal ?_ | refine W_seq ?_))
      skip
      refine W_region rfl ?_
      refine WL_is (X_loadA rfl rfl (by exact idx2) rfl rfl rfl) rfl rfl rfl ?_
      (refine WL_alloc rfl rfl rfl rfl rfl rfl ?_; intro b_)
      refine WL_store rfl rfl rfl (by exact idx0) rfl rfl rfl rfl rfl rfl rfl rfl rfl ?_
      (repeat (first | refine WL_nil ?_ | refine Then_normal ?_ | refine W_seq ?_))
      have hx3 := hx1.mono (L2.trans L3)
      skip
      refine W_draw0 9 rfl rfl rfl rfl ?_
      refine RG_val rfl rfl (fun _ => rfl) (fun _ => X_fieldAddr rfl rfl rfl (by simp only [Nat.zero_add] <;> rfl)) ?_
      refine RG_val rfl rfl (fun _ => rfl) (fun _ => X_load1 rfl rfl (by exact idx3) rfl rfl) ?_
      refine RG_append_nil (enc := encU16) (L' := c.gs) rfl (fun _ => rfl) (fun _ => rfl) elemU rfl (fun vs h' hl _ => hx3.mono hl) (flatU _) (by omega) (by omega) rfl rfl (fun _ => rfl) ?_
      refine RG_val rfl rfl (fun _ => rfl) (fun _ => X_fieldAddr rfl rfl rfl (by simp only [Nat.zero_add] <;> rfl)) ?_
      refine RG_val rfl rfl (fun _ => rfl) (fun _ => X_load1 rfl rfl (by exact idx3) rfl rfl) ?_
      refine RG_val rfl rfl (fun _ => rfl) (fun _ => X_move rfl rfl) ?_
      (refine RG_index_slN rfl rfl rfl (fun _ => rfl) (fun _ => rfl) (by assumption) (by omega) rfl rfl (fun _ => rfl) ?_; intro p_ hp_)
      refine RG_val rfl rfl (fun _ => rfl) (fun _ => X_load1_at rfl rfl (by assumption) rfl rfl) ?_
      refine RG_buildSl (enc := encU16) [c.gs[k]] (lenU _) rfl (fun _ => rfl) rfl rfl rfl rfl rfl rfl rfl rfl rfl rfl rfl rfl (fun _ => rfl) ?_
      refine RG_nil ?_
      refine RG_end rfl (fun vs => by simp only [endE, List.cons_append, List.nil_append] <;> rfl) (fun vs => by simp only [endR, List.cons_append, List.nil_append, List.append_nil] <;> rfl) (fun vs h' hf => hf) ?_
      rintro vs H4 L4 hf
      have hf1 : Sl encU16 1 H4 (vs 8) [c.gs[k]] := hf.1
      clear hf
      generalize vs 8 = r8 at *
      generalize vs 2 = r2 at *
      refine WL_append (enc := encU16) (L := c.gs) (L' := [c.gs[k]]) (i := 0) rfl rfl rfl elemU rfl rfl (Src.sl hf1) (flatU _) (by simp only [List.length_cons, List.length_nil]; omega) (by simp only [List.length_cons, List.length_nil]; omega) rfl rfl rfl ?_
      intro v3
      simp only [List.set_cons_zero]
      refine WL_updE (UpdE.row (enc := encU16) 0 rfl (lenU _)) ?_
      rintro _ H5 L5 ⟨rfl, hff⟩
      obtain ⟨fa, fc, rfl⟩ := hff.shape
      simp only [List.eraseIdx_cons_zero]
      refine WL_is (X_fieldAddr rfl rfl rfl (by simp only [Nat.zero_add] <;> rfl)) rfl rfl rfl ?_
      refine WL_store rfl rfl rfl (by exact idx0) rfl rfl rfl rfl rfl rfl rfl rfl rfl ?_
      (repeat (first | refine WL_nil ?_ | refine Then_normal ?_ | refine W_seq ?_))
      skip
      refine W_region rfl ?_
      refine WL_is (X_loadA rfl rfl (by exact idx3) rfl rfl rfl) rfl rfl rfl ?_
      (refine WL_alloc rfl rfl rfl rfl rfl rfl ?_; intro b_)
      refine WL_store rfl rfl rfl (by exact idx0) rfl rfl rfl rfl rfl rfl rfl rfl rfl ?_
      (repeat (first | refine WL_nil ?_ | refine Then_normal ?_ | refine W_seq ?_))
      skip
      refine W_region rfl ?_
      refine WL_is (X_fieldAddr rfl rfl rfl (by simp only [Nat.zero_add] <;> rfl)) rfl rfl rfl ?_
      refine WL_is (X_load1 rfl rfl (by exact idx4) rfl rfl) rfl rfl rfl ?_
      refine WL_buildSlice rfl rfl rfl rfl rfl rfl rfl rfl rfl rfl rfl rfl rfl ?_
      intro hb_
      refine WL_upd (Upd.blkrow (cap := 1) (m := 1) (sz := 1) (xs := [.int .u16 c.gid]) 0 rfl (Nat.le_refl _) rfl rfl) ?_
      simp only [List.set_cons_zero]
      refine WL_is (X_fieldAddr rfl rfl rfl (by simp only [Nat.zero_add] <;> rfl)) rfl rfl rfl ?_
      refine WL_is (X_load1 rfl rfl (by exact idx5) rfl rfl) rfl rfl rfl ?_
      have hx5 := hx3.mono (L4.trans L5)
      refine WL_append (enc := encU16) (L := [c.gid]) (L' := c.gs) (i := 0) rfl rfl rfl elemU rfl rfl (Src.sl hx5) (flatU _) (by simp only [List.length_cons, List.length_nil]; omega) (by simp only [List.length_cons, List.length_nil]; omega) rfl rfl rfl ?_
      intro v4
      simp only [List.set_cons_zero]
      refine WL_updE (UpdE.row (enc := encU16) 0 rfl (lenU _)) ?_
      rintro _ H6 L6 ⟨rfl, hh⟩
      obtain ⟨ha, hcp, rfl⟩ := hh.shape
      simp only [List.eraseIdx_cons_zero]
      have L16 := L2.trans (L3.trans (L4.trans (L5.trans L6)))
      have hcx := hc'.mono (L1.trans L16)
      have hvx := hv'.mono (L1.trans L16)
      have al := alive_fn H6
      have kd := may_fn H6 ⟨c.uid, c.gid, c.gs.drop k ++ c.gs.take k, c.hi⟩ (credV ⟨c.uid, c.gid, c.gs.drop k ++ c.gs.take k, c.hi⟩ (.slice da (c.gs.drop k ++ c.gs.take k).length dc)) a _ dir want ⟨_, rfl, hd.mono (L4.trans (L5.trans L6))⟩ hvx hs hok (by simp only [List.length_append, List.length_drop, List.length_take]; omega)
      have kdm := most_fn H6 ⟨c.uid, c.gid, c.gs.drop k ++ c.gs.take k, c.hi⟩ (credV ⟨c.uid, c.gid, c.gs.drop k ++ c.gs.take k, c.hi⟩ (.slice da (c.gs.drop k ++ c.gs.take k).length dc)) a _ dir ⟨_, rfl, hd.mono (L4.trans (L5.trans L6))⟩ hvx hs hok (by simp only [List.length_append, List.length_drop, List.length_take]; omega)
      have kc := may_fn H6 c _ a _ dir want hcx hvx hs hok hcl
      have kcm := most_fn H6 c _ a _ dir hcx hvx hs hok hcl
      have kf := may_fn H6 ⟨c.uid, c.gid, c.gs ++ [c.gs[k]], c.hi⟩ (credV ⟨c.uid, c.gid, c.gs ++ [c.gs[k]], c.hi⟩ (.slice fa (c.gs ++ [c.gs[k]]).length fc)) a _ dir want ⟨_, rfl, hff.mono L6⟩ hvx hs hok (by simp only [List.length_append, List.length_cons, List.length_nil]; omega)
      have kfc := credCheck_fn H6 ⟨c.uid, c.gid, c.gs ++ [c.gs[k]], c.hi⟩ (credV ⟨c.uid, c.gid, c.gs ++ [c.gs[k]], c.hi⟩ (.slice fa (c.gs ++ [c.gs[k]]).length fc)) ⟨_, rfl, hff.mono L6⟩
      have kh := may_fn H6 ⟨c.uid, c.gid, c.gid :: c.gs, c.hi⟩ (credV ⟨c.uid, c.gid, c.gid :: c.gs, c.hi⟩ (.slice ha ([c.gid] ++ c.gs).length hcp)) a _ dir want ⟨_, rfl, hh⟩ hvx hs hok (by simp only [List.length_cons]; omega)
      have hdl : (c.gs.drop k ++ c.gs.take k).length = c.gs.length := by simp only [List.length_append, List.length_drop, List.length_take]; omega
      have ed : mayP ⟨c.uid, c.gid, c.gs.drop k ++ c.gs.take k, c.hi⟩ a dir want = mayP c a dir want := mayP_congr rfl (in_turned c k) (by dsimp only; rw [hdl])
      have edm : mostP ⟨c.uid, c.gid, c.gs.drop k ++ c.gs.take k, c.hi⟩ a dir = mostP c a dir := mostP_congr rfl (in_turned c k) (by dsimp only; rw [hdl])
      rw [ed] at kd
      rw [edm] at kdm
      have hfl : (c.gs ++ [c.gs[k]]).length = c.gs.length + 1 := by simp
      by_cases h5 : c.gs.length + 1 ≤ 4
      · have ef : mayP ⟨c.uid, c.gid, c.gs ++ [c.gs[k]], c.hi⟩ a dir want = mayP c a dir want := mayP_congr rfl (in_twice c k hkl) (by dsimp only; rw [hfl]; omega)
        have eh : mayP ⟨c.uid, c.gid, c.gid :: c.gs, c.hi⟩ a dir want = mayP c a dir want := mayP_congr rfl (in_own c) (by simp only [List.length_cons]; omega)
        rw [ef] at kf
        rw [eh] at kh
        rw [if_pos (by dsimp only; rw [hfl]; exact h5)] at kfc
        unfold credV attrS attrV at kc kcm kd kdm kf kh
        unfold credV at kfc
        dsimp only at kd kdm kf kh kfc
        generalize mayP c a dir want = m at *
        generalize mostP c a dir = mo at *
        cases m
        · refine WL_is (X_fieldAddr rfl rfl rfl (by simp only [Nat.zero_add] <;> rfl)) rfl rfl rfl ?_
          refine WL_store rfl rfl rfl (by exact idx0) rfl rfl rfl rfl rfl rfl rfl rfl rfl ?_
          (repeat (first | refine WL_nil ?_ | refine Then_normal ?_ | refine W_seq ?_))
          skip
          refine W_region rfl ?_
          refine WL_is (X_loadA rfl rfl (by exact idx4) rfl rfl rfl) rfl rfl rfl ?_
          refine WL_is (X_loadA rfl rfl (by exact idx3) rfl rfl rfl) rfl rfl rfl ?_
          refine WL_is (X_move rfl rfl) rfl rfl rfl ?_
          refine WL_is (X_move rfl rfl) rfl rfl rfl ?_
          refine WL_is (X_callv rfl rfl rfl Try.func13 rfl (by assumption)) rfl rfl rfl ?_
          refine WL_is (X_assign rfl rfl) rfl rfl rfl ?_
          (repeat (first | refine WL_nil ?_ | refine Then_normal ?_ | refine W_seq ?_))
          skip
          refine W_draw0 15 rfl rfl rfl rfl ?_
          refine RG_val rfl rfl (fun _ => rfl) (fun _ => X_loadA rfl rfl (by exact idx2) rfl rfl rfl) ?_
          refine RG_val rfl rfl (fun _ => rfl) (fun _ => X_loadA rfl rfl (by exact idx3) rfl rfl rfl) ?_
          refine RG_val rfl rfl (fun _ => rfl) (fun _ => X_move rfl rfl) ?_
          refine RG_val rfl rfl (fun _ => rfl) (fun _ => X_move rfl rfl) ?_
          refine RG_val rfl rfl (fun _ => rfl) (fun _ => X_callv rfl rfl rfl Try.func13 rfl (by assumption)) ?_
          refine RG_val rfl rfl (fun _ => rfl) (fun _ => X_move rfl rfl) ?_
          refine RG_val rfl rfl (fun _ => rfl) (fun _ => X_neB rfl rfl rfl rfl) ?_
          refine RG_val rfl rfl (fun _ => rfl) (fun _ => X_move rfl rfl) ?_
          refine RG_val rfl rfl (fun _ => rfl) (fun _ => X_loadA rfl rfl (by exact idx2) rfl rfl rfl) ?_
          refine RG_val rfl rfl (fun _ => rfl) (fun _ => X_loadA rfl rfl (by exact idx3) rfl rfl rfl) ?_
          refine RG_val rfl rfl (fun _ => rfl) (fun _ => X_move rfl rfl) ?_
          refine RG_val rfl rfl (fun _ => rfl) (fun _ => X_callv rfl rfl rfl Try.func16 rfl (by assumption)) ?_
          refine RG_val rfl rfl (fun _ => rfl) (fun _ => X_loadA rfl rfl (by exact idx4) rfl rfl rfl) ?_
          refine RG_val rfl rfl (fun _ => rfl) (fun _ => X_loadA rfl rfl (by exact idx3) rfl rfl rfl) ?_
          refine RG_val rfl rfl (fun _ => rfl) (fun _ => X_move rfl rfl) ?_
          refine RG_nil ?_
          refine RG_endv rfl (fun vs => by simp only [endE, List.cons_append, List.nil_append] <;> rfl) (fun vs => rfl) ?_
          refine WL_is (X_callv rfl rfl rfl Try.func16 rfl (by assumption)) rfl rfl rfl ?_
          refine WL_is (X_neq_f rfl rfl rfl (by omega)) rfl rfl rfl ?_
          refine WL_is (X_pick_f rfl rfl rfl) rfl rfl rfl ?_
          (repeat (first | refine WL_nil ?_ | refine Then_normal ?_ | refine W_seq ?_ | refine W_skip ?_ | refine W_false rfl ?_))
          skip
          refine W_region rfl ?_
          refine WL_is (X_loadA rfl rfl (by exact idx1) rfl rfl rfl) rfl rfl rfl ?_
          refine WL_is (X_callv rfl rfl rfl Try.func10 rfl (by assumption)) rfl rfl rfl ?_
          refine WL_is (X_neq_f rfl rfl rfl (by omega)) rfl rfl rfl ?_
          (repeat (first | refine WL_nil ?_ | refine Then_normal ?_ | refine W_seq ?_ | refine W_skip ?_ | refine W_false rfl ?_))
          skip
          refine W_region rfl ?_
          refine WL_is (X_loadA rfl rfl (by exact idx1) rfl rfl rfl) rfl rfl rfl ?_
          refine WL_is (X_loadA rfl rfl (by exact idx3) rfl rfl rfl) rfl rfl rfl ?_
          refine WL_is (X_move rfl rfl) rfl rfl rfl ?_
          refine WL_is (X_move rfl rfl) rfl rfl rfl ?_
          refine WL_is (X_callv rfl rfl rfl Try.func13 rfl (by assumption)) rfl rfl rfl ?_
          refine WL_is (X_move rfl rfl) rfl rfl rfl ?_
          refine WL_is (X_eqB_t rfl rfl rfl rfl (by rfl)) rfl rfl rfl ?_
          refine WL_is (X_move rfl rfl) rfl rfl rfl ?_
          refine WL_is (X_loadA rfl rfl (by exact idx0) rfl rfl rfl) rfl rfl rfl ?_
          refine WL_is (X_loadA rfl rfl (by exact idx3) rfl rfl rfl) rfl rfl rfl ?_
          refine WL_is (X_move rfl rfl) rfl rfl rfl ?_
          refine WL_is (X_move rfl rfl) rfl rfl rfl ?_
          refine WL_is (X_callv rfl rfl rfl Try.func13 rfl (by assumption)) rfl rfl rfl ?_
          refine WL_is (X_move rfl rfl) rfl rfl rfl ?_
          refine WL_is (X_eqB_t rfl rfl rfl rfl (by rfl)) rfl rfl rfl ?_
          refine WL_is (X_pick_t rfl rfl rfl) rfl rfl rfl ?_
          refine WL_is (X_move rfl rfl) rfl rfl rfl ?_
          refine WL_is (X_callv rfl rfl rfl Try.func9 rfl (by assumption)) rfl rfl rfl ?_
          refine WL_is (X_pick_t rfl rfl rfl) rfl rfl rfl ?_
          refine WL_is (X_assign rfl rfl) rfl rfl rfl ?_
          (repeat (first | refine WL_nil ?_ | refine Then_normal ?_ | refine W_ret ?_))
          refine Body_end rfl rfl rfl (SubR.none _) ?_
          rfl
        · refine WL_is (X_fieldAddr rfl rfl rfl (by simp only [Nat.zero_add] <;> rfl)) rfl rfl rfl ?_
          refine WL_store rfl rfl rfl (by exact idx0) rfl rfl rfl rfl rfl rfl rfl rfl rfl ?_
          (repeat (first | refine WL_nil ?_ | refine Then_normal ?_ | refine W_seq ?_))
          skip
          refine W_region rfl ?_
          refine WL_is (X_loadA rfl rfl (by exact idx4) rfl rfl rfl) rfl rfl rfl ?_
          refine WL_is (X_loadA rfl rfl (by exact idx3) rfl rfl rfl) rfl rfl rfl ?_
          refine WL_is (X_move rfl rfl) rfl rfl rfl ?_
          refine WL_is (X_move rfl rfl) rfl rfl rfl ?_
          refine WL_is (X_callv rfl rfl rfl Try.func13 rfl (by assumption)) rfl rfl rfl ?_
          refine WL_is (X_assign rfl rfl) rfl rfl rfl ?_
          (repeat (first | refine WL_nil ?_ | refine Then_normal ?_ | refine W_seq ?_))
          skip
          refine W_draw0 15 rfl rfl rfl rfl ?_
          refine RG_val rfl rfl (fun _ => rfl) (fun _ => X_loadA rfl rfl (by exact idx2) rfl rfl rfl) ?_
          refine RG_val rfl rfl (fun _ => rfl) (fun _ => X_loadA rfl rfl (by exact idx3) rfl rfl rfl) ?_
          refine RG_val rfl rfl (fun _ => rfl) (fun _ => X_move rfl rfl) ?_
          refine RG_val rfl rfl (fun _ => rfl) (fun _ => X_move rfl rfl) ?_
          refine RG_val rfl rfl (fun _ => rfl) (fun _ => X_callv rfl rfl rfl Try.func13 rfl (by assumption)) ?_
          refine RG_val rfl rfl (fun _ => rfl) (fun _ => X_move rfl rfl) ?_
          refine RG_val rfl rfl (fun _ => rfl) (fun _ => X_neB rfl rfl rfl rfl) ?_
          refine RG_val rfl rfl (fun _ => rfl) (fun _ => X_move rfl rfl) ?_
          refine RG_val rfl rfl (fun _ => rfl) (fun _ => X_loadA rfl rfl (by exact idx2) rfl rfl rfl) ?_
          refine RG_val rfl rfl (fun _ => rfl) (fun _ => X_loadA rfl rfl (by exact idx3) rfl rfl rfl) ?_
          refine RG_val rfl rfl (fun _ => rfl) (fun _ => X_move rfl rfl) ?_
          refine RG_val rfl rfl (fun _ => rfl) (fun _ => X_callv rfl rfl rfl Try.func16 rfl (by assumption)) ?_
          refine RG_val rfl rfl (fun _ => rfl) (fun _ => X_loadA rfl rfl (by exact idx4) rfl rfl rfl) ?_
          refine RG_val rfl rfl (fun _ => rfl) (fun _ => X_loadA rfl rfl (by exact idx3) rfl rfl rfl) ?_
          refine RG_val rfl rfl (fun _ => rfl) (fun _ => X_move rfl rfl) ?_
          refine RG_nil ?_
          refine RG_endv rfl (fun vs => by simp only [endE, List.cons_append, List.nil_append] <;> rfl) (fun vs => rfl) ?_
          refine WL_is (X_callv rfl rfl rfl Try.func16 rfl (by assumption)) rfl rfl rfl ?_
          refine WL_is (X_neq_f rfl rfl rfl (by omega)) rfl rfl rfl ?_
          refine WL_is (X_pick_f rfl rfl rfl) rfl rfl rfl ?_
          (repeat (first | refine WL_nil ?_ | refine Then_normal ?_ | refine W_seq ?_ | refine W_skip ?_ | refine W_false rfl ?_))
          skip
          refine W_region rfl ?_
          refine WL_is (X_loadA rfl rfl (by exact idx1) rfl rfl rfl) rfl rfl rfl ?_
          refine WL_is (X_callv rfl rfl rfl Try.func10 rfl (by assumption)) rfl rfl rfl ?_
          refine WL_is (X_neq_f rfl rfl rfl (by omega)) rfl rfl rfl ?_
          (repeat (first | refine WL_nil ?_ | refine Then_normal ?_ | refine W_seq ?_ | refine W_skip ?_ | refine W_false rfl ?_))
          skip
          refine W_region rfl ?_
          refine WL_is (X_loadA rfl rfl (by exact idx1) rfl rfl rfl) rfl rfl rfl ?_
          refine WL_is (X_loadA rfl rfl (by exact idx3) rfl rfl rfl) rfl rfl rfl ?_
          refine WL_is (X_move rfl rfl) rfl rfl rfl ?_
          refine WL_is (X_move rfl rfl) rfl rfl rfl ?_
          refine WL_is (X_callv rfl rfl rfl Try.func13 rfl (by assumption)) rfl rfl rfl ?_
          refine WL_is (X_move rfl rfl) rfl rfl rfl ?_
          refine WL_is (X_eqB_t rfl rfl rfl rfl (by rfl)) rfl rfl rfl ?_
          refine WL_is (X_move rfl rfl) rfl rfl rfl ?_
          refine WL_is (X_loadA rfl rfl (by exact idx0) rfl rfl rfl) rfl rfl rfl ?_
          refine WL_is (X_loadA rfl rfl (by exact idx3) rfl rfl rfl) rfl rfl rfl ?_
          refine WL_is (X_move rfl rfl) rfl rfl rfl ?_
          refine WL_is (X_move rfl rfl) rfl rfl rfl ?_
          refine WL_is (X_callv rfl rfl rfl Try.func13 rfl (by assumption)) rfl rfl rfl ?_
          refine WL_is (X_move rfl rfl) rfl rfl rfl ?_
          refine WL_is (X_eqB_t rfl rfl rfl rfl (by rfl)) rfl rfl rfl ?_
          refine WL_is (X_pick_t rfl rfl rfl) rfl rfl rfl ?_
          refine WL_is (X_move rfl rfl) rfl rfl rfl ?_
          refine WL_is (X_callv rfl rfl rfl Try.func9 rfl (by assumption)) rfl rfl rfl ?_
          refine WL_is (X_pick_t rfl rfl rfl) rfl rfl rfl ?_
          refine WL_is (X_assign rfl rfl) rfl rfl rfl ?_
          (repeat (first | refine WL_nil ?_ | refine Then_normal ?_ | refine W_ret ?_))
          refine Body_end rfl rfl rfl (SubR.none _) ?_
          rfl
      · rw [if_neg (by dsimp only; rw [hfl]; exact h5)] at kfc
        unfold credV attrS attrV at kc kcm kd kdm
        unfold credV at kfc
        dsimp only at kd kdm kfc
        generalize mayP c a dir want = m at *
        generalize mostP c a dir = mo at *
        cases m
        · refine WL_is (X_fieldAddr rfl rfl rfl (by simp only [Nat.zero_add] <;> rfl)) rfl rfl rfl ?_
          refine WL_store rfl rfl rfl (by exact idx0) rfl rfl rfl rfl rfl rfl rfl rfl rfl ?_
          (repeat (first | refine WL_nil ?_ | refine Then_normal ?_ | refine W_seq ?_))
          skip
          refine W_region rfl ?_
          refine WL_is (X_loadA rfl rfl (by exact idx4) rfl rfl rfl) rfl rfl rfl ?_
          refine WL_is (X_loadA rfl rfl (by exact idx3) rfl rfl rfl) rfl rfl rfl ?_
          refine WL_is (X_move rfl rfl) rfl rfl rfl ?_
          refine WL_is (X_move rfl rfl) rfl rfl rfl ?_
          refine WL_is (X_callv rfl rfl rfl Try.func13 rfl (by assumption)) rfl rfl rfl ?_
          refine WL_is (X_assign rfl rfl) rfl rfl rfl ?_
          (repeat (first | refine WL_nil ?_ | refine Then_normal ?_ | refine W_seq ?_))
          skip
          refine W_draw0 15 rfl rfl rfl rfl ?_
          refine RG_val rfl rfl (fun _ => rfl) (fun _ => X_loadA rfl rfl (by exact idx2) rfl rfl rfl) ?_
          refine RG_val rfl rfl (fun _ => rfl) (fun _ => X_loadA rfl rfl (by exact idx3) rfl rfl rfl) ?_
          refine RG_val rfl rfl (fun _ => rfl) (fun _ => X_move rfl rfl) ?_
          refine RG_val rfl rfl (fun _ => rfl) (fun _ => X_move rfl rfl) ?_
          refine RG_val rfl rfl (fun _ => rfl) (fun _ => X_callv rfl rfl rfl Try.func13 rfl (by assumption)) ?_
          refine RG_val rfl rfl (fun _ => rfl) (fun _ => X_move rfl rfl) ?_
          refine RG_val rfl rfl (fun _ => rfl) (fun _ => X_neB rfl rfl rfl rfl) ?_
          refine RG_val rfl rfl (fun _ => rfl) (fun _ => X_move rfl rfl) ?_
          refine RG_val rfl rfl (fun _ => rfl) (fun _ => X_loadA rfl rfl (by exact idx2) rfl rfl rfl) ?_
          refine RG_val rfl rfl (fun _ => rfl) (fun _ => X_loadA rfl rfl (by exact idx3) rfl rfl rfl) ?_
          refine RG_val rfl rfl (fun _ => rfl) (fun _ => X_move rfl rfl) ?_
          refine RG_val rfl rfl (fun _ => rfl) (fun _ => X_callv rfl rfl rfl Try.func16 rfl (by assumption)) ?_
          refine RG_val rfl rfl (fun _ => rfl) (fun _ => X_loadA rfl rfl (by exact idx4) rfl rfl rfl) ?_
          refine RG_val rfl rfl (fun _ => rfl) (fun _ => X_loadA rfl rfl (by exact idx3) rfl rfl rfl) ?_
          refine RG_val rfl rfl (fun _ => rfl) (fun _ => X_move rfl rfl) ?_
          refine RG_nil ?_
          refine RG_endv rfl (fun vs => by simp only [endE, List.cons_append, List.nil_append] <;> rfl) (fun vs => rfl) ?_
          refine WL_is (X_callv rfl rfl rfl Try.func16 rfl (by assumption)) rfl rfl rfl ?_
          refine WL_is (X_neq_f rfl rfl rfl (by omega)) rfl rfl rfl ?_
          refine WL_is (X_pick_f rfl rfl rfl) rfl rfl rfl ?_
          (repeat (first | refine WL_nil ?_ | refine Then_normal ?_ | refine W_seq ?_ | refine W_skip ?_ | refine W_false rfl ?_))
          skip
          refine W_region rfl ?_
          refine WL_is (X_loadA rfl rfl (by exact idx1) rfl rfl rfl) rfl rfl rfl ?_
          refine WL_is (X_callv rfl rfl rfl Try.func10 rfl (by assumption)) rfl rfl rfl ?_
          refine WL_is (X_neq_t rfl rfl rfl (by omega)) rfl rfl rfl ?_
          (repeat (first | refine WL_nil ?_ | refine Then_normal ?_ | refine W_seq ?_ | refine W_true rfl ?_))
          skip
          refine W_region rfl ?_
          refine WL_is (X_callv rfl rfl rfl Try.func9 rfl (by assumption)) rfl rfl rfl ?_
          refine WL_is (X_assign rfl rfl) rfl rfl rfl ?_
          (repeat (first | refine WL_nil ?_ | refine Then_normal ?_ | refine W_ret ?_ | refine Then_ret ?_))
          refine Body_end rfl rfl rfl (SubR.none _) ?_
          rfl
        · refine WL_is (X_fieldAddr rfl rfl rfl (by simp only [Nat.zero_add] <;> rfl)) rfl rfl rfl ?_
          refine WL_store rfl rfl rfl (by exact idx0) rfl rfl rfl rfl rfl rfl rfl rfl rfl ?_
          (repeat (first | refine WL_nil ?_ | refine Then_normal ?_ | refine W_seq ?_))
          skip
          refine W_region rfl ?_
          refine WL_is (X_loadA rfl rfl (by exact idx4) rfl rfl rfl) rfl rfl rfl ?_
          refine WL_is (X_loadA rfl rfl (by exact idx3) rfl rfl rfl) rfl rfl rfl ?_
          refine WL_is (X_move rfl rfl) rfl rfl rfl ?_
          refine WL_is (X_move rfl rfl) rfl rfl rfl ?_
          refine WL_is (X_callv rfl rfl rfl Try.func13 rfl (by assumption)) rfl rfl rfl ?_
          refine WL_is (X_assign rfl rfl) rfl rfl rfl ?_
          (repeat (first | refine WL_nil ?_ | refine Then_normal ?_ | refine W_seq ?_))
          skip
          refine W_draw0 15 rfl rfl rfl rfl ?_
          refine RG_val rfl rfl (fun _ => rfl) (fun _ => X_loadA rfl rfl (by exact idx2) rfl rfl rfl) ?_
          refine RG_val rfl rfl (fun _ => rfl) (fun _ => X_loadA rfl rfl (by exact idx3) rfl rfl rfl) ?_
          refine RG_val rfl rfl (fun _ => rfl) (fun _ => X_move rfl rfl) ?_
          refine RG_val rfl rfl (fun _ => rfl) (fun _ => X_move rfl rfl) ?_
          refine RG_val rfl rfl (fun _ => rfl) (fun _ => X_callv rfl rfl rfl Try.func13 rfl (by assumption)) ?_
          refine RG_val rfl rfl (fun _ => rfl) (fun _ => X_move rfl rfl) ?_
          refine RG_val rfl rfl (fun _ => rfl) (fun _ => X_neB rfl rfl rfl rfl) ?_
          refine RG_val rfl rfl (fun _ => rfl) (fun _ => X_move rfl rfl) ?_
          refine RG_val rfl rfl (fun _ => rfl) (fun _ => X_loadA rfl rfl (by exact idx2) rfl rfl rfl) ?_
          refine RG_val rfl rfl (fun _ => rfl) (fun _ => X_loadA rfl rfl (by exact idx3) rfl rfl rfl) ?_
          refine RG_val rfl rfl (fun _ => rfl) (fun _ => X_move rfl rfl) ?_
          refine RG_val rfl rfl (fun _ => rfl) (fun _ => X_callv rfl rfl rfl Try.func16 rfl (by assumption)) ?_
          refine RG_val rfl rfl (fun _ => rfl) (fun _ => X_loadA rfl rfl (by exact idx4) rfl rfl rfl) ?_
          refine RG_val rfl rfl (fun _ => rfl) (fun _ => X_loadA rfl rfl (by exact idx3) rfl rfl rfl) ?_
          refine RG_val rfl rfl (fun _ => rfl) (fun _ => X_move rfl rfl) ?_
          refine RG_nil ?_
          refine RG_endv rfl (fun vs => by simp only [endE, List.cons_append, List.nil_append] <;> rfl) (fun vs => rfl) ?_
          refine WL_is (X_callv rfl rfl rfl Try.func16 rfl (by assumption)) rfl rfl rfl ?_
          refine WL_is (X_neq_f rfl rfl rfl (by omega)) rfl rfl rfl ?_
          refine WL_is (X_pick_f rfl rfl rfl) rfl rfl rfl ?_
          (repeat (first | refine WL_nil ?_ | refine Then_normal ?_ | refine W_seq ?_ | refine W_skip ?_ | refine W_false rfl ?_))
          skip
          refine W_region rfl ?_
          refine WL_is (X_loadA rfl rfl (by exact idx1) rfl rfl rfl) rfl rfl rfl ?_
          refine WL_is (X_callv rfl rfl rfl Try.func10 rfl (by assumption)) rfl rfl rfl ?_
          refine WL_is (X_neq_t rfl rfl rfl (by omega)) rfl rfl rfl ?_
          (repeat (first | refine WL_nil ?_ | refine Then_normal ?_ | refine W_seq ?_ | refine W_true rfl ?_))
          skip
          refine W_region rfl ?_
          refine WL_is (X_callv rfl rfl rfl Try.func9 rfl (by assumption)) rfl rfl rfl ?_
          refine WL_is (X_assign rfl rfl) rfl rfl rfl ?_
          (repeat (first | refine WL_nil ?_ | refine Then_normal ?_ | refine W_ret ?_ | refine Then_ret ?_))
          refine Body_end rfl rfl rfl (SubR.none _) ?_
          rfl
end Go.Proofs.Ytjampjbhaekjbaa
