/- Directories: the law on listing piece by piece. -/
import Derived.Test.YtgpanbmjmpondaaDiqG
namespace Go.Proofs.Ytgpanbmjmpondaa
set_option maxRecDepth 4000
open Go Go.Par PH
structure PX where
  i : Nat
  d : Dr
  y0 : Value
  y1 : Value
  y2 : Value
  y3 : Value
  g : PH
def pairP : Pair := ⟨9, 10, 7, fun v => [pblk v [.slice none 0 0, .slice none 0 0, .slice none 0 0, .slice none 0 0] 25], fun vp vd => [gblk vp (fun cs => vd = .agg cs.toArray) 25]⟩
structure QX where
  n : Nat
  d : Dr
  y0 : Value
  y1 : Value
  y2 : Value
  y3 : Value
  f : Int
  at_ : Nat
  S : List (Bs × Int)
  T : List (Bs × Int)
  g : PH
structure RcX where
  j : Nat
  f : Int
  T : List (Bs × Int)
attribute [local irreducible] W WL Does Exec Body Then inBlk RG WR row obj pblk
set_option maxHeartbeats 8000000 in
theorem pieces_law (h : PH) (v1 v2 : Value) (l1 l2 : List Stp) (most : Int) (hv1 : Sl encT 3 h v1 l1) (hv2 : Sl encT 3 h v2 l2) (hio1 : ∀ t ∈ l1, 0 ≤ t.ino ∧ t.ino ≤ 255) (hio2 : ∀ t ∈ l2, 0 ≤ t.ino ∧ t.ino ≤ 255) (hmo : 0 ≤ most ∧ most ≤ 255) :
    Does Try.prog 6 [v1, v2, .int .u8 most] [] h (Ret fun r _ _ => r = .bool true) := by
  have hlo1 := long_fn h v1 l1 hv1
  have hlo2 := fun h' hl => long_fn h' v2 l2 (hv2.mono hl)
  have hal := fun h => alive_fn h
  obtain ⟨a1, c1, rfl⟩ := hv1.shape
  obtain ⟨a2, c2, rfl⟩ := hv2.shape
  refine Does_of_W Try.func6 rfl (n := 194) rfl rfl (by simp only [argE, Nat.reduceAdd] <;> rfl) ?_
  (repeat (first | refine W_seq ?_))
  refine W_region rfl ?_
  refine WL_is (X_assign rfl rfl) rfl rfl rfl ?_
  (repeat (first | refine WL_nil ?_ | refine Then_normal ?_ | refine W_seq ?_))
  skip
  refine W_region rfl ?_
  refine WL_is (X_move rfl rfl) rfl rfl rfl ?_
  refine WL_call rfl rfl rfl Try.func26 rfl rfl rfl rfl hlo1 ?_
  rintro _ _ H1 L1 ⟨⟨b, rfl, hsh⟩, rfl⟩
  simp only [List.nil_append]
  have go1 := hal H1
  cases b with
  | true =>
    refine WL_is (X_move rfl rfl) rfl rfl rfl ?_
    refine WL_off rfl rfl rfl ?_
    refine WL_off rfl rfl rfl ?_
    refine WL_is (X_pick_t rfl rfl rfl) rfl rfl rfl ?_
    (repeat (first | refine WL_nil ?_ | refine Then_normal ?_ | refine W_seq ?_ | refine W_true rfl ?_))
    skip
    refine W_region rfl ?_
    refine WL_is (X_callv rfl rfl rfl Try.func8 rfl (by assumption)) rfl rfl rfl ?_
    refine WL_is (X_assign rfl rfl) rfl rfl rfl ?_
    (repeat (first | refine WL_nil ?_ | refine Then_normal ?_ | refine W_ret ?_ | refine Then_ret ?_))
    refine Body_end rfl rfl rfl (SubR.none _) ?_
    rfl
  | false =>
   refine WL_is (X_move rfl rfl) rfl rfl rfl ?_
   refine WL_is (X_move rfl rfl) rfl rfl rfl ?_
   refine WL_call rfl rfl rfl Try.func26 rfl rfl rfl rfl (hlo2 H1 L1) ?_
   rintro _ _ H2 L2 ⟨⟨b, rfl, hsh2⟩, rfl⟩
   simp only [List.nil_append]
   have go2 := hal H2
   cases b with
   | true =>
    refine WL_is (X_pick_f rfl rfl rfl) rfl rfl rfl ?_
    (repeat (first | refine WL_nil ?_ | refine Then_normal ?_ | refine W_seq ?_ | refine W_true rfl ?_))
    skip
    refine W_region rfl ?_
    refine WL_is (X_callv rfl rfl rfl Try.func8 rfl (by assumption)) rfl rfl rfl ?_
    refine WL_is (X_assign rfl rfl) rfl rfl rfl ?_
    (repeat (first | refine WL_nil ?_ | refine Then_normal ?_ | refine W_ret ?_ | refine Then_ret ?_))
    refine Body_end rfl rfl rfl (SubR.none _) ?_
    rfl
   | false =>
    obtain ⟨hl120, hl100⟩ := hsh rfl
    obtain ⟨hm120, hm100⟩ := hsh2 rfl
    replace hv1 := (hv1.mono L1).mono L2
    replace hv2 := (hv2.mono L1).mono L2
    refine WL_is (X_pick_f rfl rfl rfl) rfl rfl rfl ?_
    (repeat (first | refine WL_nil ?_ | refine Then_normal ?_ | refine W_seq ?_ | refine W_skip ?_ | refine W_false rfl ?_))
    skip
    refine W_region rfl ?_
    refine WL_is (X_build rfl rfl rfl) rfl rfl rfl ?_
    (refine WL_alloc rfl rfl rfl rfl rfl rfl ?_; intro b_)
    refine WL_store rfl rfl rfl (by exact idx0) rfl rfl rfl rfl rfl rfl rfl rfl rfl ?_
    (repeat (first | refine WL_nil ?_ | refine Then_normal ?_ | refine W_seq ?_))
    generalize b_ = b7
    skip
    refine W_region rfl ?_
    refine WL_is (X_assign rfl rfl) rfl rfl rfl ?_
    (repeat (first | refine WL_nil ?_ | refine Then_normal ?_ | refine W_block ?_))
    refine W_loop (X := PX) (L := fun x => ⟨[(8, .int .i64 (x.i : Int)), (7, .pointer (some ⟨b7, 0, none⟩)), (0, .slice a1 l1.length c1), (1, .slice a2 l2.length c2), (2, .int .u8 most)], [], [blk b7 [x.y0, x.y1, x.y2, x.y3] 25], x.g⟩) (p := fun x => le H2 x.g ∧ x.i ≤ l1.length ∧ DrV x.g (drV x.y0 x.y1 x.y2 x.y3) x.d ∧ InvD x.d x.i) (μ := fun x => l1.length - x.i) ⟨0, dr0, .slice none 0 0, .slice none 0 0, .slice none 0 0, .slice none 0 0, H2⟩ ⟨(by repeat (first | exact SubE_nil | refine SubE_cons rfl ?_)), rfl, SubR.refl _, rfl⟩ ⟨le.refl _, Nat.zero_le _, DrV.nil, InvD.zero⟩ ?_
    rintro ⟨i, d, y0, y1, y2, y3, g⟩ ⟨hg, hi, hd, hin⟩
    dsimp only at hg hi hd hin ⊢
    replace hv1 := hv1.mono hg
    replace hv2 := hv2.mono hg
    by_cases hil : i < l1.length
    · have hti := hio1 _ (List.getElem_mem hil)
      have htn := hl100 _ (List.getElem_mem hil)
      have cst := fun h' hl => step_fn h' _ d l1[i] (hd.mono hl) hin.big hin.nm (by omega) hti
      have hcase := step_any hin (by omega) hti
      obtain ⟨dd, ee, hst⟩ : ∃ a b, stepR d l1[i] = (a, b) := ⟨_, _, rfl⟩
      rw [hst] at cst hcase
      unfold drV at cst
      (repeat (first | refine W_seq ?_))
      refine W_region rfl ?_
      refine WL_is (X_move rfl rfl) rfl rfl rfl ?_
      refine WL_is (X_move rfl rfl) rfl rfl rfl ?_
      refine WL_is (X_len_sl rfl rfl rfl (by assumption)) rfl rfl rfl ?_
      refine WL_is (X_lss_t rfl rfl rfl (by omega)) rfl rfl rfl ?_
      (repeat (first | refine WL_nil ?_ | refine Then_normal ?_ | refine W_seq ?_ | refine W_skip ?_ | refine W_block ?_ | refine W_true rfl ?_))
      skip
      refine W_drawT pairP rfl rfl rfl 11 rfl _ [] [blk b7 [y0, y1, y2, y3] 25] rfl rfl rfl (SubE.refl _) rfl ?_
      refine RGT_step (by decide) (by decide) ?_
      refine RG_val rfl rfl (fun _ => rfl) (fun _ => X_loadA rfl rfl (by exact idx0) rfl rfl rfl) ?_
      refine RG_nil ?_
      refine RGT_step (by decide) (by decide) ?_
      refine RG_val rfl rfl (fun _ => rfl) (fun _ => X_move rfl rfl) ?_
      refine RG_nil ?_
      refine RGT_step (by decide) (by decide) ?_
      refine RG_val rfl rfl (fun _ => rfl) (fun _ => X_move rfl rfl) ?_
      refine RG_nil ?_
      refine RGT_step (by decide) (by decide) ?_
      (refine RG_index_slN rfl rfl rfl (fun _ => rfl) (fun _ => rfl) (by assumption) (by omega) rfl rfl (fun _ => rfl) ?_; intro p_ hp_)
      refine RG_nil ?_
      refine RGT_step (by decide) (by decide) ?_
      refine RG_val rfl rfl (fun _ => rfl) (fun _ => X_loadA_at rfl rfl (by assumption) rfl rfl rfl) ?_
      refine RG_nil ?_
      refine RGT_step (by decide) (by decide) ?_
      refine RG_callo (fun v h => DirA (dd, ee) v h) (fun v h h' hl ⟨w, e, hw⟩ => ⟨w, e, hw.mono hl⟩) rfl (fun _ => rfl) (fun _ => rfl) Try.func27 rfl rfl rfl (fun _ => rfl) (fun vs h' hl _ => (cst h' hl).wkn (fun _ _ _ _ h => h.1)) ?_
      refine RG_nil ?_
      refine RGT_step (by decide) (by decide) ?_
      refine RG_gen (.opq (fun v h => DirA (dd, ee) v h) [] fun _ => []) (fun v h h' hl ⟨w, e, hw⟩ => ⟨w, e, hw.mono hl⟩) rfl rfl (fun _ => rfl) (fun vs h' hl hf => (X_move (v := vs 5) rfl rfl).mono fun e R' h'' _ ⟨e1, e2, e3⟩ => ⟨vs 5, e1, by rw [e3]; exact hf.1, by rw [e2]; exact SubR.refl _⟩) ?_
      refine RG_nil ?_
      refine RGT_step (by decide) (by decide) ?_
      refine RG_gen (.opq (fun v h => DrV h v dd) [] fun _ => []) (fun v h h' hl hv => hv.mono hl) rfl rfl (fun _ => rfl) (fun vs h' hl hf => ?_) ?_
      · obtain ⟨w, hw, hdr⟩ := hf.1
        refine Exec.mono (X_extract (vs := [w, .int .i64 ee]) (v := w) rfl ?_ rfl) ?_
        · exact congrArg some hw
        · exact fun e R' h'' _ ⟨e1, e2, e3⟩ => ⟨w, e1, by rw [e3]; exact hdr, by rw [e2]; exact SubR.refl _⟩
      refine RG_nil ?_
      refine RGT_step (by decide) (by decide) ?_
      refine RG_valO (.int .i64 ee) rfl rfl (fun _ => rfl) (fun vs h' hl hf => ?_) ?_
      · obtain ⟨w, hw, hdr⟩ := hf.1
        refine X_extract (vs := [w, .int .i64 ee]) rfl ?_ rfl
        exact congrArg some hw
      refine RG_nil ?_
      refine RGT_alloc rfl rfl rfl rfl rfl rfl rfl rfl (fun _ => rfl) ?_
      refine RGT_store (u := fun vs => vs 7) (sz := 4) (G := fun v cs => v = .agg cs.toArray) rfl rfl rfl rfl rfl rfl rfl (fun _ => rfl) (fun _ => rfl) (fun vs h' hl hf => ?_) rfl rfl rfl (fun _ => rfl) ?_
      · have hd7 : DrV h' (vs 7) dd := hf.2.1
        obtain ⟨z0, z1, z2, z3, hz, s0, s1, s2, s3⟩ := hd7
        obtain ⟨_, _, rfl⟩ := s0.shape
        obtain ⟨_, _, rfl⟩ := s1.shape
        obtain ⟨_, _, rfl⟩ := s2.shape
        obtain ⟨_, _, rfl⟩ := s3.shape
        exact ⟨[_, _, _, _], by rw [hz]; rfl, rfl, rfl, hz⟩
      refine RGT_nil ?_
      refine ⟨⟨by simp [allC], .inl fun vs h4 hl4 hf => ?_⟩, .inl rfl⟩
      simp only [endE, endR, List.cons_append, List.nil_append, List.append_nil, Nat.zero_add, Nat.reduceAdd]
      obtain ⟨-, ⟨q9, hq9⟩, hd7, -⟩ := hf
      change DrV h4 (vs 7) dd at hd7
      change WL _ _ _ _ ⟨_, _, [gblk (vs 9) (fun cs => vs 7 = .agg cs.toArray) 25, blk b7 [y0, y1, y2, y3] 25], h4⟩ _ _
      refine WL_updE (UpdE.gblk 0 rfl) ?_
      rintro _ _ - ⟨rfl, b9, cs, hb9, hcs, rfl⟩
      rw [hb9]
      have hd8 := hd7
      obtain ⟨z0, z1, z2, z3, hz, s0, s1, s2, s3⟩ := hd8
      have hcs2 : cs = [z0, z1, z2, z3] := by
        rw [hz] at hcs
        unfold drV at hcs
        simp only [Value.agg.injEq] at hcs
        have := congrArg Array.toList hcs
        simpa using this.symm
      subst hcs2
      rw [hz] at hd7
      obtain ⟨za0, zc0, rfl⟩ := s0.shape
      obtain ⟨za1, zc1, rfl⟩ := s1.shape
      obtain ⟨za2, zc2, rfl⟩ := s2.shape
      obtain ⟨za3, zc3, rfl⟩ := s3.shape
      simp only [List.set_cons_zero]
      rcases hcase with ⟨d', he, hin', htr⟩ | he
      · cases he
        refine WL_is (X_assign rfl rfl) rfl rfl rfl ?_
        (repeat (first | refine WL_nil ?_ | refine Then_normal ?_ | refine W_seq ?_))
        skip
        refine W_region rfl ?_
        refine WL_is (X_move rfl rfl) rfl rfl rfl ?_
        refine WL_is (X_eql_t rfl rfl rfl (by omega)) rfl rfl rfl ?_
        (repeat (first | refine WL_nil ?_ | refine Then_normal ?_ | refine W_true rfl ?_))
        skip
        refine W_region rfl ?_
        refine WL_is (X_loadA rfl rfl (by exact idx0) rfl rfl rfl) rfl rfl rfl ?_
        refine WL_store rfl rfl rfl (by exact idx1) rfl rfl rfl rfl rfl rfl rfl rfl rfl ?_
        (repeat (first | refine WL_nil ?_ | refine Then_normal ?_ | refine inBlk_normal ?_))
        skip
        refine W_region rfl ?_
        refine WL_is (X_move rfl rfl) rfl rfl rfl ?_
        refine WL_is (X_addW rfl rfl rfl (by exact wrap_i64_in (by omega) (by omega))) rfl rfl rfl ?_
        refine WL_is (X_assign rfl rfl) rfl rfl rfl ?_
        (repeat (first | refine WL_nil ?_ | refine Then_normal ?_))
        exact ⟨⟨i + 1, dd, _, _, _, _, _⟩, ⟨(by repeat (first | exact SubE_nil | refine SubE_cons rfl ?_)), rfl, .skip _ (SubR.refl _), rfl⟩, ⟨hg.trans hl4, hil, hd7, hin'⟩, by dsimp only; omega⟩
      · dsimp only at he
        refine WL_is (X_assign rfl rfl) rfl rfl rfl ?_
        (repeat (first | refine WL_nil ?_ | refine Then_normal ?_ | refine W_seq ?_))
        skip
        refine W_region rfl ?_
        refine WL_is (X_move rfl rfl) rfl rfl rfl ?_
        refine WL_is (X_eql_f rfl rfl rfl (by omega)) rfl rfl rfl ?_
        (repeat (first | refine WL_nil ?_ | refine Then_normal ?_ | refine W_skip ?_ | refine inBlk_normal ?_ | refine W_false rfl ?_))
        skip
        refine W_region rfl ?_
        refine WL_is (X_move rfl rfl) rfl rfl rfl ?_
        refine WL_is (X_addW rfl rfl rfl (by exact wrap_i64_in (by omega) (by omega))) rfl rfl rfl ?_
        refine WL_is (X_assign rfl rfl) rfl rfl rfl ?_
        (repeat (first | refine WL_nil ?_ | refine Then_normal ?_))
        exact ⟨⟨i + 1, d, y0, y1, y2, y3, _⟩, ⟨(by repeat (first | exact SubE_nil | refine SubE_cons rfl ?_)), rfl, .skip _ (SubR.refl _), rfl⟩, ⟨hg.trans hl4, hil, hd.mono hl4, hin.more⟩, by dsimp only; omega⟩
    · have hie : i = l1.length := by omega
      subst hie
      have cli := list_fn g _ d 0 1000 hd hin.big hin.nm
      rw [list_all hin (by omega)] at cli
      unfold drV at cli
      (repeat (first | refine W_seq ?_))
      refine W_region rfl ?_
      refine WL_is (X_move rfl rfl) rfl rfl rfl ?_
      refine WL_is (X_move rfl rfl) rfl rfl rfl ?_
      refine WL_is (X_len_sl rfl rfl rfl (by assumption)) rfl rfl rfl ?_
      refine WL_is (X_lss_f rfl rfl rfl (by omega)) rfl rfl rfl ?_
      (repeat (first | refine WL_nil ?_ | refine Then_normal ?_ | refine W_seq ?_ | refine W_exit ?_ | refine Then_exit ?_ | refine inBlk_here ?_ | refine W_false rfl ?_))
      skip
      refine W_region rfl ?_
      refine WL_is (X_loadA rfl rfl (by exact idx0) rfl rfl rfl) rfl rfl rfl ?_
      refine WL_call rfl rfl rfl Try.func13 rfl rfl rfl rfl cli ?_
      rintro _ _ g1 M1 ⟨⟨lv, rfl, hF⟩, rfl⟩
      simp only [List.nil_append]
      dsimp only at hF
      obtain ⟨fa, fc, rfl⟩ := hF.shape
      have hd1 := hd.mono M1
      have hcn := hin.cnt
      replace hv2 := hv2.mono M1
      have hjp0 : ∀ S, JP (allL d) (allL d) S [] 0 := fun S e he _ => ⟨he, by
        have := spot_ok (all_slots he).1
        rw [if_neg (by unfold cookS; omega)]; rfl⟩
      have hph0 : (behL 0 (allL d)).length ≤ 120 := Nat.le_trans (List.length_filter_le ..) (by have := hin.cnt; omega)
      refine WL_is (X_move rfl rfl) rfl rfl rfl ?_
      refine WL_is (X_extract rfl rfl rfl) rfl rfl rfl ?_
      refine WL_is (X_extract rfl rfl rfl) rfl rfl rfl ?_
      refine WL_is (X_assign rfl rfl) rfl rfl rfl ?_
      refine WL_is (X_assign rfl rfl) rfl rfl rfl ?_
      (repeat (first | refine WL_nil ?_ | refine Then_normal ?_ | refine W_seq ?_))
      skip
      refine W_region rfl ?_
      refine WL_is (X_move rfl rfl) rfl rfl rfl ?_
      refine WL_is (X_neq_f rfl rfl rfl (by omega)) rfl rfl rfl ?_
      (repeat (first | refine WL_nil ?_ | refine Then_normal ?_ | refine W_seq ?_ | refine W_skip ?_ | refine W_false rfl ?_))
      skip
      refine W_region rfl ?_
      refine WL_any (X_makeMap (ek := ekB) (ev := evI) rfl) rfl rfl rfl ?_
      rintro _ _ g1' - ⟨ms, rfl, rfl, rfl⟩
      refine WL_is (X_assign rfl rfl) rfl rfl rfl ?_
      (repeat (first | refine WL_nil ?_ | refine Then_normal ?_ | refine W_seq ?_))
      skip
      refine W_region rfl ?_
      refine WL_is (X_assign rfl rfl) rfl rfl rfl ?_
      (repeat (first | refine WL_nil ?_ | refine Then_normal ?_ | refine W_block ?_))
      refine W_loop (X := Nat × List (Bs × Int)) (L := fun x => ⟨[(14, .int .i64 (x.1 : Int)), (13, .map (some ms)), (11, .slice fa (allL d).length fc), (7, .pointer (some ⟨b7, 0, none⟩)), (1, .slice a2 l2.length c2), (2, .int .u8 most)], [], [mpL ekB evI ms x.2, blk b7 [y0, y1, y2, y3] 25], g1'⟩) (p := fun x => x.1 ≤ (allL d).length) (μ := fun x => (allL d).length - x.1) ⟨0, []⟩ ⟨(by repeat (first | exact SubE_nil | refine SubE_cons rfl ?_)), rfl, SubR.refl _, rfl⟩ (Nat.zero_le _) ?_
      rintro ⟨k, S⟩ hk
      dsimp only at hk ⊢
      by_cases hkl : k < (allL d).length
      · (repeat (first | refine W_seq ?_))
        refine W_region rfl ?_
        refine WL_is (X_move rfl rfl) rfl rfl rfl ?_
        refine WL_is (X_move rfl rfl) rfl rfl rfl ?_
        refine WL_is (X_len_sl rfl rfl rfl (by assumption)) rfl rfl rfl ?_
        refine WL_is (X_lss_t rfl rfl rfl (by omega)) rfl rfl rfl ?_
        (repeat (first | refine WL_nil ?_ | refine Then_normal ?_ | refine W_seq ?_ | refine W_skip ?_ | refine W_block ?_ | refine W_true rfl ?_))
        skip
        refine W_region rfl ?_
        refine WL_is (X_move rfl rfl) rfl rfl rfl ?_
        refine WL_is (X_move rfl rfl) rfl rfl rfl ?_
        refine WL_is (X_move rfl rfl) rfl rfl rfl ?_
        (refine WL_index_slN rfl rfl rfl rfl rfl (by assumption) (by omega) rfl rfl rfl ?_; intro p_ hp_)
        (refine WL_fieldAddr_at rfl rfl (by assumption) rfl rfl rfl rfl ?_; intro p_ hp_)
        (refine WL_fieldAddr_at rfl rfl (by assumption) rfl rfl rfl rfl ?_; intro p_ hp_)
        refine WL_is (X_load1_at rfl rfl (by assumption) rfl rfl) rfl rfl rfl ?_
        refine WL_mapUpdate (ev := evI) rfl rfl (keyB rfl) rfl (k := (allL d)[k].2.nm) (v := 1) rfl rfl idx0 rfl rfl ?_
        simp only [List.set_cons_zero]
        refine WL_nil ?_
        (repeat (first | refine Then_normal ?_ | refine inBlk_normal ?_))
        skip
        refine W_region rfl ?_
        refine WL_is (X_move rfl rfl) rfl rfl rfl ?_
        refine WL_is (X_addW rfl rfl rfl (by exact wrap_i64_in (by omega) (by omega))) rfl rfl rfl ?_
        refine WL_is (X_assign rfl rfl) rfl rfl rfl ?_
        (repeat (first | refine WL_nil ?_ | refine Then_normal ?_))
        exact ⟨⟨k + 1, _⟩, ⟨(by repeat (first | exact SubE_nil | refine SubE_cons rfl ?_)), rfl, SubR.refl _, rfl⟩, hkl, by dsimp only; omega⟩
      · (repeat (first | refine W_seq ?_))
        refine W_region rfl ?_
        refine WL_is (X_move rfl rfl) rfl rfl rfl ?_
        refine WL_is (X_move rfl rfl) rfl rfl rfl ?_
        refine WL_is (X_len_sl rfl rfl rfl (by assumption)) rfl rfl rfl ?_
        refine WL_is (X_lss_f rfl rfl rfl (by omega)) rfl rfl rfl ?_
        (repeat (first | refine WL_nil ?_ | refine Then_normal ?_ | refine W_seq ?_ | refine W_exit ?_ | refine Then_exit ?_ | refine inBlk_here ?_ | refine W_false rfl ?_))
        clear hk hkl
        skip
        refine W_region rfl ?_
        refine WL_any (X_makeMap (ek := ekB) (ev := evI) rfl) rfl rfl rfl ?_
        rintro _ _ g2 - ⟨mt, rfl, rfl, rfl⟩
        refine WL_is (X_assign rfl rfl) rfl rfl rfl ?_
        (repeat (first | refine WL_nil ?_ | refine Then_normal ?_ | refine W_seq ?_))
        skip
        refine W_region rfl ?_
        refine WL_is (X_assign rfl rfl) rfl rfl rfl ?_
        refine WL_is (X_assign rfl rfl) rfl rfl rfl ?_
        (repeat (first | refine WL_nil ?_ | refine Then_normal ?_ | refine W_seq ?_))
        skip
        refine W_region rfl ?_
        refine WL_is (X_assign rfl rfl) rfl rfl rfl ?_
        (repeat (first | refine WL_nil ?_ | refine Then_normal ?_ | refine W_block ?_))
        generalize hFF : allL d = F at hF hjp0 hph0
        refine W_loop (X := QX) (L := fun x => ⟨[(18, .int .i64 (x.n : Int)), (16, .int .i64 x.f), (17, .int .i64 (x.at_ : Int)), (15, .map (some mt)), (13, .map (some ms)), (11, .slice fa F.length fc), (7, .pointer (some ⟨b7, 0, none⟩)), (1, .slice a2 l2.length c2), (2, .int .u8 most)], [], [mpL ekB evI mt x.T, mpL ekB evI ms x.S, blk b7 [x.y0, x.y1, x.y2, x.y3] 25], x.g⟩) (p := fun x => le g2 x.g ∧ x.at_ ≤ l2.length ∧ DrV x.g (drV x.y0 x.y1 x.y2 x.y3) x.d ∧ InvD x.d (120 + x.at_) ∧ JP F (allL x.d) x.S x.T x.f ∧ (behL x.f (allL x.d)).length + (l2.length - x.at_) + x.n ≤ 240 ∧ ∀ k, 0 ≤ tv x.T k ∧ tv x.T k ≤ 9 * (x.n : Int)) (μ := fun x => 600 - x.n) ⟨0, d, y0, y1, y2, y3, 0, 0, S, [], g2⟩ ⟨by rw [← hFF]; exact (by repeat (first | exact SubE_nil | refine SubE_cons rfl ?_)), rfl, SubR.refl _, rfl⟩ ⟨le.refl _, Nat.zero_le _, hd1, ⟨hin.may, hin.ten, fun k hk => Nat.le_trans (hin.rows k hk) (by omega), Nat.le_trans hin.cnt (by omega)⟩, by dsimp only; rw [hFF]; exact hjp0 S, by dsimp only; rw [hFF]; omega, fun k => ⟨Int.le_refl _, by dsimp only; exact Int.le_refl _⟩⟩ ?_
        rintro ⟨n, d, y0, y1, y2, y3, f, at_, S, T, g⟩ ⟨hg, hat, hd, hin, hjp, hph, htv⟩
        dsimp only at hg hat hd hin hjp hph htv ⊢
        replace hv2 := hv2.mono hg
        replace hF := hF.mono hg
        have hmm : 0 ≤ most % 9 ∧ most % 9 ≤ 8 := by omega
        have cli := list_fn g _ d f (1 + most % 9) hd hin.big hin.nm
        rw [list_may hin.may f _ (by omega)] at cli
        unfold drV at cli
        (repeat (first | refine W_seq ?_))
        refine W_region rfl ?_
        refine WL_is (X_move rfl rfl) rfl rfl rfl ?_
        refine WL_is (X_lss_t rfl rfl rfl (by omega)) rfl rfl rfl ?_
        (repeat (first | refine WL_nil ?_ | refine Then_normal ?_ | refine W_seq ?_ | refine W_skip ?_ | refine W_block ?_ | refine W_true rfl ?_))
        skip
        refine W_region rfl ?_
        refine WL_is (X_loadA rfl rfl (by exact idx2) rfl rfl rfl) rfl rfl rfl ?_
        refine WL_is (X_move rfl rfl) rfl rfl rfl ?_
        refine WL_is (X_move rfl rfl) rfl rfl rfl ?_
        refine WL_is (X_rem rfl rfl rfl (by omega) (by omega)) rfl rfl rfl ?_
        refine WL_is (X_convW rfl rfl rfl rfl (by exact wrap_i64_in (by omega) (by omega))) rfl rfl rfl ?_
        refine WL_is (X_addW rfl rfl rfl (by exact wrap_i64_in (by omega) (by omega))) rfl rfl rfl ?_
        refine WL_call rfl rfl rfl Try.func13 rfl rfl rfl rfl cli ?_
        rintro _ _ g3 M3 ⟨⟨lv, rfl, hlv⟩, rfl⟩
        simp only [List.nil_append]
        dsimp only at hlv
        obtain ⟨pa, pcc, rfl⟩ := hlv.shape
        have hd3 := hd.mono M3
        have hv3 := hv2.mono M3
        have hF3 := hF.mono M3
        obtain ⟨B, hB⟩ : ∃ B, behL f (allL d) = B := ⟨_, rfl⟩
        have hpl : (listL (allL d) f (1 + most % 9)) = B.take (1 + most % 9).toNat := by unfold listL; rw [hB]
        obtain ⟨pc, hpc⟩ : ∃ pc, listL (allL d) f (1 + most % 9) = pc := ⟨_, rfl⟩
        rw [hpc] at hlv hpl ⊢
        rw [hB] at hph
        have hpcl : pc.length = min (1 + most % 9).toNat B.length := by rw [hpl, List.length_take]
        have hle : ¬ (pc.length : Int) > 1 + most % 9 := by omega
        by_cases hz : (pc.length : Int) = 0
        · have hBn : B = [] := List.eq_nil_of_length_eq_zero (by omega)
          have hJ : ∀ e ∈ F, tv S e.2.nm = 1 → tv T e.2.nm = 1 := fun e he hs => by
            obtain ⟨h1, h2⟩ := hjp e he hs
            rw [h2, if_pos]
            rcases Int.lt_or_le f (cookS e.1) with h5 | h5
            · have : e ∈ behL f (allL d) := List.mem_filter.2 ⟨h1, by simpa using h5⟩
              rw [hB, hBn] at this; cases this
            · exact h5
          have cl9 := list_fn g3 _ d f 9 hd3 hin.big hin.nm
          rw [list_may hin.may f 9 (by omega)] at cl9
          have hl9 : listL (allL d) f 9 = [] := by unfold listL; rw [hB, hBn]; rfl
          rw [hl9] at cl9
          unfold drV at cl9
          refine WL_is (X_move rfl rfl) rfl rfl rfl ?_
          refine WL_is (X_extract rfl rfl rfl) rfl rfl rfl ?_
          refine WL_is (X_extract rfl rfl rfl) rfl rfl rfl ?_
          refine WL_is (X_assign rfl rfl) rfl rfl rfl ?_
          refine WL_is (X_assign rfl rfl) rfl rfl rfl ?_
          (repeat (first | refine WL_nil ?_ | refine Then_normal ?_ | refine W_seq ?_))
          skip
          refine W_region rfl ?_
          refine WL_is (X_move rfl rfl) rfl rfl rfl ?_
          refine WL_is (X_neq_f rfl rfl rfl (by omega)) rfl rfl rfl ?_
          refine WL_is (X_move rfl rfl) rfl rfl rfl ?_
          refine WL_is (X_move rfl rfl) rfl rfl rfl ?_
          refine WL_is (X_len_sl rfl rfl rfl (by assumption)) rfl rfl rfl ?_
          refine WL_is (X_move rfl rfl) rfl rfl rfl ?_
          refine WL_is (X_rem rfl rfl rfl (by omega) (by omega)) rfl rfl rfl ?_
          refine WL_is (X_convW rfl rfl rfl rfl (by exact wrap_i64_in (by omega) (by omega))) rfl rfl rfl ?_
          refine WL_is (X_addW rfl rfl rfl (by exact wrap_i64_in (by omega) (by omega))) rfl rfl rfl ?_
          refine WL_is (X_gtr_f rfl rfl rfl (by omega)) rfl rfl rfl ?_
          refine WL_is (X_pick_f rfl rfl rfl) rfl rfl rfl ?_
          (repeat (first | refine WL_nil ?_ | refine Then_normal ?_ | refine W_seq ?_ | refine W_skip ?_ | refine W_false rfl ?_))
          skip
          refine W_region rfl ?_
          refine WL_is (X_move rfl rfl) rfl rfl rfl ?_
          refine WL_is (X_len_sl rfl rfl rfl (by assumption)) rfl rfl rfl ?_
          refine WL_is (X_eql_t rfl rfl rfl (by omega)) rfl rfl rfl ?_
          (repeat (first | refine WL_nil ?_ | refine Then_normal ?_ | refine W_seq ?_ | refine W_exit ?_ | refine Then_exit ?_ | refine inBlk_here ?_ | refine inBlk_out rfl ?_ | refine W_true rfl ?_))
          skip
          refine W_region rfl ?_
          refine WL_is (X_loadA rfl rfl (by exact idx2) rfl rfl rfl) rfl rfl rfl ?_
          refine WL_is (X_move rfl rfl) rfl rfl rfl ?_
          refine WL_call rfl rfl rfl Try.func13 rfl rfl rfl rfl cl9 ?_
          rintro _ _ g4 M4 ⟨⟨lv2, rfl, hlv2⟩, rfl⟩
          simp only [List.nil_append]
          dsimp only at hlv2
          obtain ⟨pa2, pc2, rfl⟩ := hlv2.shape
          have hl0 : (([] : List (Spo × Slo)).length : Int) = 0 := rfl
          have hl0' : ¬ (([] : List (Spo × Slo)).length : Int) ≠ 0 := fun h => h rfl
          replace hF3 := hF3.mono M4
          refine WL_is (X_move rfl rfl) rfl rfl rfl ?_
          refine WL_is (X_extract rfl rfl rfl) rfl rfl rfl ?_
          refine WL_is (X_extract rfl rfl rfl) rfl rfl rfl ?_
          refine WL_is (X_assign rfl rfl) rfl rfl rfl ?_
          refine WL_is (X_assign rfl rfl) rfl rfl rfl ?_
          (repeat (first | refine WL_nil ?_ | refine Then_normal ?_ | refine W_seq ?_))
          skip
          refine W_region rfl ?_
          refine WL_is (X_move rfl rfl) rfl rfl rfl ?_
          refine WL_is (X_neq_f rfl rfl rfl (by omega)) rfl rfl rfl ?_
          refine WL_is (X_move rfl rfl) rfl rfl rfl ?_
          refine WL_is (X_move rfl rfl) rfl rfl rfl ?_
          refine WL_is (X_len_sl rfl rfl rfl (by assumption)) rfl rfl rfl ?_
          refine WL_is (X_neq_f rfl rfl rfl (by omega)) rfl rfl rfl ?_
          refine WL_is (X_pick_f rfl rfl rfl) rfl rfl rfl ?_
          (repeat (first | refine WL_nil ?_ | refine Then_normal ?_ | refine W_seq ?_ | refine W_skip ?_ | refine W_false rfl ?_))
          skip
          refine W_region rfl ?_
          refine WL_is (X_assign rfl rfl) rfl rfl rfl ?_
          (repeat (first | refine WL_nil ?_ | refine Then_normal ?_ | refine W_block ?_))
          refine W_loop (X := Nat) (L := fun k => ⟨[(26, .int .i64 (k : Int)), (13, .map (some ms)), (15, .map (some mt)), (11, .slice fa F.length fc)], [], [mpL ekB evI mt T, mpL ekB evI ms S], g4⟩) (p := fun k => k ≤ F.length) (μ := fun k => F.length - k) 0 ⟨(by repeat (first | exact SubE_nil | refine SubE_cons rfl ?_)), rfl, .cons _ (.cons _ (SubR.none _)), rfl⟩ (Nat.zero_le _) ?_
          rintro k hk
          have hFl : F.length ≤ 120 := by rw [← hFF]; omega
          by_cases hkl : k < F.length
          · have hJk := hJ _ (List.getElem_mem hkl)
            (repeat (first | refine W_seq ?_))
            refine W_region rfl ?_
            refine WL_is (X_move rfl rfl) rfl rfl rfl ?_
            refine WL_is (X_move rfl rfl) rfl rfl rfl ?_
            refine WL_is (X_len_sl rfl rfl rfl (by assumption)) rfl rfl rfl ?_
            refine WL_is (X_lss_t rfl rfl rfl (by omega)) rfl rfl rfl ?_
            (repeat (first | refine WL_nil ?_ | refine Then_normal ?_ | refine W_seq ?_ | refine W_skip ?_ | refine W_block ?_ | refine W_true rfl ?_))
            skip
            refine W_region rfl ?_
            refine WL_is (X_move rfl rfl) rfl rfl rfl ?_
            refine WL_is (X_move rfl rfl) rfl rfl rfl ?_
            refine WL_is (X_move rfl rfl) rfl rfl rfl ?_
            (refine WL_index_slN rfl rfl rfl rfl rfl (by assumption) (by omega) rfl rfl rfl ?_; intro p_ hp_)
            (refine WL_fieldAddr_at rfl rfl (by assumption) rfl rfl rfl rfl ?_; intro p_ hp_)
            (refine WL_fieldAddr_at rfl rfl (by assumption) rfl rfl rfl rfl ?_; intro p_ hp_)
            refine WL_is (X_load1_at rfl rfl (by assumption) rfl rfl) rfl rfl rfl ?_
            refine WL_is (X_lookC (tv_look S F[k].2.nm) rfl rfl (keyB rfl) rfl rfl (k := F[k].2.nm) rfl idx1) rfl rfl rfl ?_
            by_cases hs1 : tv S F[k].2.nm = 1
            · have ht1 := hJk hs1
              have ht1' : ¬ tv T F[k].2.nm ≠ 1 := fun h => h ht1
              refine WL_is (X_eql_t rfl rfl rfl (by omega)) rfl rfl rfl ?_
              refine WL_is (X_move rfl rfl) rfl rfl rfl ?_
              refine WL_is (X_move rfl rfl) rfl rfl rfl ?_
              refine WL_is (X_move rfl rfl) rfl rfl rfl ?_
              refine WL_is (X_move rfl rfl) rfl rfl rfl ?_
              (refine WL_index_slN rfl rfl rfl rfl rfl (by assumption) (by omega) rfl rfl rfl ?_; intro p_ hp_)
              (refine WL_fieldAddr_at rfl rfl (by assumption) rfl rfl rfl rfl ?_; intro p_ hp_)
              (refine WL_fieldAddr_at rfl rfl (by assumption) rfl rfl rfl rfl ?_; intro p_ hp_)
              refine WL_is (X_load1_at rfl rfl (by assumption) rfl rfl) rfl rfl rfl ?_
              refine WL_is (X_lookC (tv_look T F[k].2.nm) rfl rfl (keyB rfl) rfl rfl (k := F[k].2.nm) rfl idx0) rfl rfl rfl ?_
              refine WL_is (X_neq_f rfl rfl rfl (by omega)) rfl rfl rfl ?_
              refine WL_is (X_pick_t rfl rfl rfl) rfl rfl rfl ?_
              (repeat (first | refine WL_nil ?_ | refine Then_normal ?_ | refine W_skip ?_ | refine inBlk_normal ?_ | refine W_false rfl ?_))
              skip
              refine W_region rfl ?_
              refine WL_is (X_move rfl rfl) rfl rfl rfl ?_
              refine WL_is (X_addW rfl rfl rfl (by exact wrap_i64_in (by omega) (by omega))) rfl rfl rfl ?_
              refine WL_is (X_assign rfl rfl) rfl rfl rfl ?_
              (repeat (first | refine WL_nil ?_ | refine Then_normal ?_))
              exact ⟨k + 1, ⟨(by repeat (first | exact SubE_nil | refine SubE_cons rfl ?_)), rfl, SubR.refl _, rfl⟩, hkl, by omega⟩
            · refine WL_is (X_eql_f rfl rfl rfl (by omega)) rfl rfl rfl ?_
              refine WL_is (X_move rfl rfl) rfl rfl rfl ?_
              refine WL_off rfl rfl rfl ?_
              refine WL_off rfl rfl rfl ?_
              refine WL_off rfl rfl rfl ?_
              refine WL_off rfl rfl rfl ?_
              refine WL_off rfl rfl rfl ?_
              refine WL_off rfl rfl rfl ?_
              refine WL_off rfl rfl rfl ?_
              refine WL_off rfl rfl rfl ?_
              refine WL_off rfl rfl rfl ?_
              refine WL_is (X_pick_f rfl rfl rfl) rfl rfl rfl ?_
              (repeat (first | refine WL_nil ?_ | refine Then_normal ?_ | refine W_skip ?_ | refine inBlk_normal ?_ | refine W_false rfl ?_))
              skip
              refine W_region rfl ?_
              refine WL_is (X_move rfl rfl) rfl rfl rfl ?_
              refine WL_is (X_addW rfl rfl rfl (by exact wrap_i64_in (by omega) (by omega))) rfl rfl rfl ?_
              refine WL_is (X_assign rfl rfl) rfl rfl rfl ?_
              (repeat (first | refine WL_nil ?_ | refine Then_normal ?_))
              exact ⟨k + 1, ⟨(by repeat (first | exact SubE_nil | refine SubE_cons rfl ?_)), rfl, SubR.refl _, rfl⟩, hkl, by omega⟩
          · have go4 := hal g4
            (repeat (first | refine W_seq ?_))
            refine W_region rfl ?_
            refine WL_is (X_move rfl rfl) rfl rfl rfl ?_
            refine WL_is (X_move rfl rfl) rfl rfl rfl ?_
            refine WL_is (X_len_sl rfl rfl rfl (by assumption)) rfl rfl rfl ?_
            refine WL_is (X_lss_f rfl rfl rfl (by omega)) rfl rfl rfl ?_
            (repeat (first | refine WL_nil ?_ | refine Then_normal ?_ | refine W_seq ?_ | refine W_exit ?_ | refine Then_exit ?_ | refine inBlk_here ?_ | refine W_false rfl ?_))
            skip
            refine W_region rfl ?_
            refine WL_is (X_callv rfl rfl rfl Try.func8 rfl (by assumption)) rfl rfl rfl ?_
            refine WL_is (X_assign rfl rfl) rfl rfl rfl ?_
            (repeat (first | refine WL_nil ?_ | refine Then_normal ?_ | refine W_ret ?_))
            refine Body_end rfl rfl rfl (SubR.none _) ?_
            rfl
        · refine WL_is (X_move rfl rfl) rfl rfl rfl ?_
          refine WL_is (X_extract rfl rfl rfl) rfl rfl rfl ?_
          refine WL_is (X_extract rfl rfl rfl) rfl rfl rfl ?_
          refine WL_is (X_assign rfl rfl) rfl rfl rfl ?_
          refine WL_is (X_assign rfl rfl) rfl rfl rfl ?_
          (repeat (first | refine WL_nil ?_ | refine Then_normal ?_ | refine W_seq ?_))
          skip
          refine W_region rfl ?_
          refine WL_is (X_move rfl rfl) rfl rfl rfl ?_
          refine WL_is (X_neq_f rfl rfl rfl (by omega)) rfl rfl rfl ?_
          refine WL_is (X_move rfl rfl) rfl rfl rfl ?_
          refine WL_is (X_move rfl rfl) rfl rfl rfl ?_
          refine WL_is (X_len_sl rfl rfl rfl (by assumption)) rfl rfl rfl ?_
          refine WL_is (X_move rfl rfl) rfl rfl rfl ?_
          refine WL_is (X_rem rfl rfl rfl (by omega) (by omega)) rfl rfl rfl ?_
          refine WL_is (X_convW rfl rfl rfl rfl (by exact wrap_i64_in (by omega) (by omega))) rfl rfl rfl ?_
          refine WL_is (X_addW rfl rfl rfl (by exact wrap_i64_in (by omega) (by omega))) rfl rfl rfl ?_
          refine WL_is (X_gtr_f rfl rfl rfl (by omega)) rfl rfl rfl ?_
          refine WL_is (X_pick_f rfl rfl rfl) rfl rfl rfl ?_
          (repeat (first | refine WL_nil ?_ | refine Then_normal ?_ | refine W_seq ?_ | refine W_skip ?_ | refine W_false rfl ?_))
          skip
          refine W_region rfl ?_
          refine WL_is (X_move rfl rfl) rfl rfl rfl ?_
          refine WL_is (X_len_sl rfl rfl rfl (by assumption)) rfl rfl rfl ?_
          refine WL_is (X_eql_f rfl rfl rfl (by omega)) rfl rfl rfl ?_
          (repeat (first | refine WL_nil ?_ | refine Then_normal ?_ | refine W_seq ?_ | refine W_skip ?_ | refine W_false rfl ?_))
          skip
          refine W_region rfl ?_
          refine WL_is (X_assign rfl rfl) rfl rfl rfl ?_
          (repeat (first | refine WL_nil ?_ | refine Then_normal ?_ | refine W_block ?_))
          refine W_loop (X := RcX) (L := fun x => ⟨[(21, .int .i64 (x.j : Int)), (19, .slice pa pc.length pcc), (16, .int .i64 x.f), (18, .int .i64 (n : Int)), (17, .int .i64 (at_ : Int)), (15, .map (some mt)), (13, .map (some ms)), (11, .slice fa F.length fc), (7, .pointer (some ⟨b7, 0, none⟩)), (1, .slice a2 l2.length c2), (2, .int .u8 most)], [], [mpL ekB evI mt x.T, mpL ekB evI ms S, blk b7 [y0, y1, y2, y3] 25], g3⟩) (p := fun x => x.j ≤ pc.length ∧ behL x.f (allL d) = B.drop x.j ∧ JP F (allL d) S x.T x.f ∧ ∀ k, 0 ≤ tv x.T k ∧ tv x.T k ≤ 9 * (n : Int) + x.j) (μ := fun x => pc.length - x.j) ⟨0, f, T⟩ ⟨(by repeat (first | exact SubE_nil | refine SubE_cons rfl ?_)), rfl, SubR.refl _, rfl⟩ ⟨Nat.zero_le _, hB, hjp, fun k => ⟨(htv k).1, by have := (htv k).2; dsimp only; omega⟩⟩ ?_
          rintro ⟨j, fj, Tj⟩ ⟨hj, hbj, hjj, htj⟩
          dsimp only at hj hbj hjj htj ⊢
          by_cases hjl : j < pc.length
          · have hjB : j < B.length := by omega
            have hpB : pc[j] = B[j] := by
              have h9 : pc[j]? = some B[j] := by rw [hpl, List.getElem?_take, if_pos (by omega), List.getElem?_eq_getElem hjB]
              rw [List.getElem?_eq_getElem hjl] at h9
              exact Option.some.inj h9
            have hbx : behL fj (allL d) = pc[j] :: B.drop (j + 1) := by rw [hbj, List.drop_eq_getElem_cons hjB, hpB]
            obtain ⟨n1, n2, n3, n4⟩ := beh_next (sorted_all d) hbx
            have hcmp : ¬ cookS pc[j].1 ≤ fj := by omega
            have htl := hjj.tell (sorted_all d) hin.nd hbx
            have htb := htj pc[j].2.nm
            (repeat (first | refine W_seq ?_))
            refine W_region rfl ?_
            refine WL_is (X_move rfl rfl) rfl rfl rfl ?_
            refine WL_is (X_move rfl rfl) rfl rfl rfl ?_
            refine WL_is (X_len_sl rfl rfl rfl (by assumption)) rfl rfl rfl ?_
            refine WL_is (X_lss_t rfl rfl rfl (by omega)) rfl rfl rfl ?_
            (repeat (first | refine WL_nil ?_ | refine Then_normal ?_ | refine W_seq ?_ | refine W_skip ?_ | refine W_block ?_ | refine W_true rfl ?_))
            skip
            refine W_region rfl ?_
            refine WL_is (X_move rfl rfl) rfl rfl rfl ?_
            refine WL_is (X_move rfl rfl) rfl rfl rfl ?_
            (refine WL_index_slN rfl rfl rfl rfl rfl (by assumption) (by omega) rfl rfl rfl ?_; intro p_ hp_)
            (refine WL_fieldAddr_at rfl rfl (by assumption) rfl rfl rfl rfl ?_; intro p_ hp_)
            refine WL_is (X_load1_at rfl rfl (by assumption) rfl rfl) rfl rfl rfl ?_
            refine WL_is (X_move rfl rfl) rfl rfl rfl ?_
            refine WL_is (X_leq_f rfl rfl rfl (by omega)) rfl rfl rfl ?_
            (repeat (first | refine WL_nil ?_ | refine Then_normal ?_ | refine W_seq ?_ | refine W_skip ?_ | refine W_false rfl ?_))
            skip
            refine W_region rfl ?_
            refine WL_is (X_move rfl rfl) rfl rfl rfl ?_
            refine WL_is (X_move rfl rfl) rfl rfl rfl ?_
            (refine WL_index_slN rfl rfl rfl rfl rfl (by assumption) (by omega) rfl rfl rfl ?_; intro p_ hp_)
            (refine WL_fieldAddr_at rfl rfl (by assumption) rfl rfl rfl rfl ?_; intro p_ hp_)
            refine WL_is (X_load1_at rfl rfl (by assumption) rfl rfl) rfl rfl rfl ?_
            refine WL_is (X_assign rfl rfl) rfl rfl rfl ?_
            (repeat (first | refine WL_nil ?_ | refine Then_normal ?_))
            skip
            refine W_region rfl ?_
            refine WL_is (X_move rfl rfl) rfl rfl rfl ?_
            refine WL_is (X_move rfl rfl) rfl rfl rfl ?_
            refine WL_is (X_move rfl rfl) rfl rfl rfl ?_
            (refine WL_index_slN rfl rfl rfl rfl rfl (by assumption) (by omega) rfl rfl rfl ?_; intro p_ hp_)
            (refine WL_fieldAddr_at rfl rfl (by assumption) rfl rfl rfl rfl ?_; intro p_ hp_)
            (refine WL_fieldAddr_at rfl rfl (by assumption) rfl rfl rfl rfl ?_; intro p_ hp_)
            refine WL_is (X_load1_at rfl rfl (by assumption) rfl rfl) rfl rfl rfl ?_
            refine WL_is (X_lookC (tv_look Tj pc[j].2.nm) rfl rfl (keyB rfl) rfl rfl (k := pc[j].2.nm) rfl idx0) rfl rfl rfl ?_
            refine WL_is (X_addW rfl rfl rfl (by exact wrap_i64_in (by omega) (by omega))) rfl rfl rfl ?_
            refine WL_mapUpdate (ev := evI) rfl rfl (keyB rfl) rfl (k := pc[j].2.nm) (v := tv Tj pc[j].2.nm + 1) rfl rfl idx0 rfl rfl ?_
            simp only [List.set_cons_zero]
            refine WL_nil ?_
            (repeat (first | refine Then_normal ?_ | refine inBlk_normal ?_))
            skip
            refine W_region rfl ?_
            refine WL_is (X_move rfl rfl) rfl rfl rfl ?_
            refine WL_is (X_addW rfl rfl rfl (by exact wrap_i64_in (by omega) (by omega))) rfl rfl rfl ?_
            refine WL_is (X_assign rfl rfl) rfl rfl rfl ?_
            (repeat (first | refine WL_nil ?_ | refine Then_normal ?_))
            refine ⟨⟨j + 1, cookS pc[j].1, _⟩, ⟨(by repeat (first | exact SubE_nil | refine SubE_cons rfl ?_)), rfl, SubR.refl _, rfl⟩, ⟨hjl, n2, htl, fun k => ?_⟩, by dsimp only; omega⟩
            dsimp only
            rw [tv_up]
            have := htj k
            split <;> omega
          · have hje : j = pc.length := by omega
            subst hje
            have hbl : (behL fj (allL d)).length + pc.length = B.length := by rw [hbj, List.length_drop]; omega
            have hpos : 1 ≤ pc.length := by omega
            have hp9 : pc.length ≤ 9 := by omega
            have htj' : ∀ k, 0 ≤ tv Tj k ∧ tv Tj k ≤ 9 * ((n + 1 : Nat) : Int) := fun k => by have := htj k; omega
            by_cases hal2 : at_ < l2.length
            · have hti := hio2 _ (List.getElem_mem hal2)
              have htn := hm100 _ (List.getElem_mem hal2)
              have cst := step_fn g3 _ d l2[at_] hd3 hin.big hin.nm (by omega) hti
              have hcase := step_any hin (by omega) hti
              obtain ⟨dd, ee, hst⟩ : ∃ a b, stepR d l2[at_] = (a, b) := ⟨_, _, rfl⟩
              rw [hst] at cst hcase
              unfold drV encT at cst
              (repeat (first | refine W_seq ?_))
              refine W_region rfl ?_
              refine WL_is (X_move rfl rfl) rfl rfl rfl ?_
              refine WL_is (X_move rfl rfl) rfl rfl rfl ?_
              refine WL_is (X_len_sl rfl rfl rfl (by assumption)) rfl rfl rfl ?_
              refine WL_is (X_lss_f rfl rfl rfl (by omega)) rfl rfl rfl ?_
              (repeat (first | refine WL_nil ?_ | refine Then_normal ?_ | refine W_seq ?_ | refine W_exit ?_ | refine Then_exit ?_ | refine inBlk_here ?_ | refine W_false rfl ?_))
              skip
              refine W_region rfl ?_
              refine WL_is (X_move rfl rfl) rfl rfl rfl ?_
              refine WL_is (X_move rfl rfl) rfl rfl rfl ?_
              refine WL_is (X_len_sl rfl rfl rfl (by assumption)) rfl rfl rfl ?_
              refine WL_is (X_lss_t rfl rfl rfl (by omega)) rfl rfl rfl ?_
              (repeat (first | refine WL_nil ?_ | refine Then_normal ?_ | refine W_seq ?_ | refine W_true rfl ?_))
              skip
              refine W_region rfl ?_
              refine WL_is (X_move rfl rfl) rfl rfl rfl ?_
              refine WL_is (X_move rfl rfl) rfl rfl rfl ?_
              (refine WL_index_slN rfl rfl rfl rfl rfl (by assumption) (by omega) rfl rfl rfl ?_; intro p_ hp_)
              refine WL_is (X_loadA_at rfl rfl (by assumption) rfl rfl rfl) rfl rfl rfl ?_
              (refine WL_alloc rfl rfl rfl rfl rfl rfl ?_; intro b_)
              refine WL_store rfl rfl rfl (by exact idx0) rfl rfl rfl rfl rfl rfl rfl rfl rfl ?_
              (repeat (first | refine WL_nil ?_ | refine Then_normal ?_ | refine W_seq ?_))
              generalize b_ = b22
              generalize l2[at_] = t at hti htn cst hcase ⊢
              skip
              refine W_region rfl ?_
              refine WL_is (X_loadA rfl rfl (by exact idx3) rfl rfl rfl) rfl rfl rfl ?_
              refine WL_is (X_loadA rfl rfl (by exact idx0) rfl rfl rfl) rfl rfl rfl ?_
              refine WL_call rfl rfl rfl Try.func27 rfl rfl rfl rfl cst ?_
              rintro _ _ g4 M4 ⟨⟨w, rfl, hdd⟩, rfl⟩
              simp only [List.nil_append]
              dsimp only at hdd
              have hd0 := hdd
              obtain ⟨z0, z1, z2, z3, rfl, i0, i1, i2, i3⟩ := hd0
              obtain ⟨za0, zc0, rfl⟩ := i0.shape
              obtain ⟨za1, zc1, rfl⟩ := i1.shape
              obtain ⟨za2, zc2, rfl⟩ := i2.shape
              obtain ⟨za3, zc3, rfl⟩ := i3.shape
              unfold drV
              refine WL_is (X_move rfl rfl) rfl rfl rfl ?_
              refine WL_is (X_extract rfl rfl rfl) rfl rfl rfl ?_
              refine WL_is (X_extract rfl rfl rfl) rfl rfl rfl ?_
              (refine WL_alloc rfl rfl rfl rfl rfl rfl ?_; intro b_)
              refine WL_store rfl rfl rfl (by exact idx0) rfl rfl rfl rfl rfl rfl rfl rfl rfl ?_
              refine WL_is (X_assign rfl rfl) rfl rfl rfl ?_
              (repeat (first | refine WL_nil ?_ | refine Then_normal ?_ | refine W_seq ?_))
              rcases hcase with ⟨d', he, hin', htr⟩ | he
              · cases he
                have hbe := htr.len hin.nd fj
                skip
                refine W_region rfl ?_
                refine WL_is (X_move rfl rfl) rfl rfl rfl ?_
                refine WL_is (X_eql_t rfl rfl rfl (by omega)) rfl rfl rfl ?_
                (repeat (first | refine WL_nil ?_ | refine Then_normal ?_ | refine W_seq ?_ | refine W_true rfl ?_))
                skip
                refine W_region rfl ?_
                refine WL_is (X_loadA rfl rfl (by exact idx0) rfl rfl rfl) rfl rfl rfl ?_
                refine WL_store rfl rfl rfl (by exact idx4) rfl rfl rfl rfl rfl rfl rfl rfl rfl ?_
                (repeat (first | refine WL_nil ?_ | refine Then_normal ?_ | refine W_seq ?_))
                cases htk : t.tk with
                | true =>
                  have hj2 := hjj.take htk htr
                  skip
                  refine W_region rfl ?_
                  refine WL_is (X_fieldAddr rfl rfl rfl (by simp only [Nat.zero_add] <;> rfl)) rfl rfl rfl ?_
                  refine WL_is (X_load1 rfl rfl (by exact idx1) rfl rfl) rfl rfl rfl ?_
                  (repeat (first | refine WL_nil ?_ | refine Then_normal ?_ | refine W_true rfl ?_))
                  skip
                  refine W_region rfl ?_
                  refine WL_is (X_move rfl rfl) rfl rfl rfl ?_
                  refine WL_is (X_fieldAddr rfl rfl rfl (by simp only [Nat.zero_add] <;> rfl)) rfl rfl rfl ?_
                  refine WL_is (X_load1 rfl rfl (by exact idx1) rfl rfl) rfl rfl rfl ?_
                  refine WL_mapUpdate (ev := evI) rfl rfl (keyB rfl) rfl (k := t.nm) (v := 0) rfl rfl idx3 rfl rfl ?_
                  simp only [List.set_cons_zero, List.set_cons_succ]
                  refine WL_nil ?_
                  (repeat (first | refine Then_normal ?_))
                  skip
                  refine W_region rfl ?_
                  refine WL_is (X_move rfl rfl) rfl rfl rfl ?_
                  refine WL_is (X_addW rfl rfl rfl (by exact wrap_i64_in (by omega) (by omega))) rfl rfl rfl ?_
                  refine WL_is (X_assign rfl rfl) rfl rfl rfl ?_
                  (repeat (first | refine WL_nil ?_ | refine Then_normal ?_ | refine inBlk_normal ?_))
                  skip
                  refine W_region rfl ?_
                  refine WL_is (X_move rfl rfl) rfl rfl rfl ?_
                  refine WL_is (X_addW rfl rfl rfl (by exact wrap_i64_in (by omega) (by omega))) rfl rfl rfl ?_
                  refine WL_is (X_assign rfl rfl) rfl rfl rfl ?_
                  (repeat (first | refine WL_nil ?_ | refine Then_normal ?_))
                  exact ⟨⟨n + 1, dd, _, _, _, _, fj, at_ + 1, _, Tj, g4⟩, ⟨(by repeat (first | exact SubE_nil | refine SubE_cons rfl ?_)), rfl, .skip _ (.skip _ (SubR.refl _)), rfl⟩, ⟨(hg.trans M3).trans M4, hal2, hdd, hin', hj2, by dsimp only; omega, htj'⟩, by dsimp only; omega⟩
                | false =>
                  have hj2 := hjj.put htk htr
                  skip
                  refine W_region rfl ?_
                  refine WL_is (X_fieldAddr rfl rfl rfl (by simp only [Nat.zero_add] <;> rfl)) rfl rfl rfl ?_
                  refine WL_is (X_load1 rfl rfl (by exact idx1) rfl rfl) rfl rfl rfl ?_
                  (repeat (first | refine WL_nil ?_ | refine Then_normal ?_ | refine W_skip ?_ | refine W_false rfl ?_))
                  skip
                  refine W_region rfl ?_
                  refine WL_is (X_move rfl rfl) rfl rfl rfl ?_
                  refine WL_is (X_addW rfl rfl rfl (by exact wrap_i64_in (by omega) (by omega))) rfl rfl rfl ?_
                  refine WL_is (X_assign rfl rfl) rfl rfl rfl ?_
                  (repeat (first | refine WL_nil ?_ | refine Then_normal ?_ | refine inBlk_normal ?_))
                  skip
                  refine W_region rfl ?_
                  refine WL_is (X_move rfl rfl) rfl rfl rfl ?_
                  refine WL_is (X_addW rfl rfl rfl (by exact wrap_i64_in (by omega) (by omega))) rfl rfl rfl ?_
                  refine WL_is (X_assign rfl rfl) rfl rfl rfl ?_
                  (repeat (first | refine WL_nil ?_ | refine Then_normal ?_))
                  exact ⟨⟨n + 1, dd, _, _, _, _, fj, at_ + 1, S, Tj, g4⟩, ⟨(by repeat (first | exact SubE_nil | refine SubE_cons rfl ?_)), rfl, .skip _ (.skip _ (SubR.refl _)), rfl⟩, ⟨(hg.trans M3).trans M4, hal2, hdd, hin', hj2, by dsimp only; omega, htj'⟩, by dsimp only; omega⟩
              · dsimp only at he
                skip
                refine W_region rfl ?_
                refine WL_is (X_move rfl rfl) rfl rfl rfl ?_
                refine WL_is (X_eql_f rfl rfl rfl (by omega)) rfl rfl rfl ?_
                (repeat (first | refine WL_nil ?_ | refine Then_normal ?_ | refine W_skip ?_ | refine W_false rfl ?_))
                skip
                refine W_region rfl ?_
                refine WL_is (X_move rfl rfl) rfl rfl rfl ?_
                refine WL_is (X_addW rfl rfl rfl (by exact wrap_i64_in (by omega) (by omega))) rfl rfl rfl ?_
                refine WL_is (X_assign rfl rfl) rfl rfl rfl ?_
                (repeat (first | refine WL_nil ?_ | refine Then_normal ?_ | refine inBlk_normal ?_))
                skip
                refine W_region rfl ?_
                refine WL_is (X_move rfl rfl) rfl rfl rfl ?_
                refine WL_is (X_addW rfl rfl rfl (by exact wrap_i64_in (by omega) (by omega))) rfl rfl rfl ?_
                refine WL_is (X_assign rfl rfl) rfl rfl rfl ?_
                (repeat (first | refine WL_nil ?_ | refine Then_normal ?_))
                exact ⟨⟨n + 1, d, y0, y1, y2, y3, fj, at_ + 1, S, Tj, g4⟩, ⟨(by repeat (first | exact SubE_nil | refine SubE_cons rfl ?_)), rfl, .skip _ (.skip _ (SubR.refl _)), rfl⟩, ⟨(hg.trans M3).trans M4, hal2, hd3.mono M4, hin.more, hjj, by dsimp only; omega, htj'⟩, by dsimp only; omega⟩
            · (repeat (first | refine W_seq ?_))
              refine W_region rfl ?_
              refine WL_is (X_move rfl rfl) rfl rfl rfl ?_
              refine WL_is (X_move rfl rfl) rfl rfl rfl ?_
              refine WL_is (X_len_sl rfl rfl rfl (by assumption)) rfl rfl rfl ?_
              refine WL_is (X_lss_f rfl rfl rfl (by omega)) rfl rfl rfl ?_
              (repeat (first | refine WL_nil ?_ | refine Then_normal ?_ | refine W_seq ?_ | refine W_exit ?_ | refine Then_exit ?_ | refine inBlk_here ?_ | refine W_false rfl ?_))
              skip
              refine W_region rfl ?_
              refine WL_is (X_move rfl rfl) rfl rfl rfl ?_
              refine WL_is (X_move rfl rfl) rfl rfl rfl ?_
              refine WL_is (X_len_sl rfl rfl rfl (by assumption)) rfl rfl rfl ?_
              refine WL_is (X_lss_f rfl rfl rfl (by omega)) rfl rfl rfl ?_
              (repeat (first | refine WL_nil ?_ | refine Then_normal ?_ | refine W_skip ?_ | refine inBlk_normal ?_ | refine W_false rfl ?_))
              skip
              refine W_region rfl ?_
              refine WL_is (X_move rfl rfl) rfl rfl rfl ?_
              refine WL_is (X_addW rfl rfl rfl (by exact wrap_i64_in (by omega) (by omega))) rfl rfl rfl ?_
              refine WL_is (X_assign rfl rfl) rfl rfl rfl ?_
              (repeat (first | refine WL_nil ?_ | refine Then_normal ?_))
              exact ⟨⟨n + 1, d, y0, y1, y2, y3, fj, at_, S, Tj, g3⟩, ⟨(by repeat (first | exact SubE_nil | refine SubE_cons rfl ?_)), rfl, SubR.refl _, rfl⟩, ⟨hg.trans M3, hat, hd3, hin, hjj, by dsimp only; omega, htj'⟩, by dsimp only; omega⟩
end Go.Proofs.Ytgpanbmjmpondaa
