/- Births: the law on heirs. -/
import Derived.Test.YtcgmbfgmofcemaaBirthI
namespace Go.Proofs.Ytcgmbfgmofcemaa
set_option maxRecDepth 4000
open Go Go.Par PH
def pairH : Pair := ⟨11, 12, 9, fun v => [pblk v (attrC attr0 (.slice none 0 0) (.slice none 0 0) (.slice none 0 0) (.slice none 0 0) (.slice none 0 0)) 31], fun vp vd => [gblk vp (fun cs => vd = .agg cs.toArray) 31]⟩
structure HX where
  i : Nat
  q : Attr
  y1 : Value
  y2 : Value
  y3 : Value
  y4 : Value
  y5 : Value
  g : PH
/-- What New answers where it may be. -/
def NewB (a : Attr) (r : Value) (h : PH) : Prop := ∃ w, r = .tuple #[w, .int .i64 0] ∧ AttrV h w a
theorem NewB.of {c : Cred} {umask : Int} {p : Attr} {kind mode : Int} {h : PH} {r : Value} (H : NewA c umask p kind mode r h) (hb : bornB c p kind = true) : NewB (born c umask p kind mode) r h := by
  unfold NewA at H
  rw [hb] at H
  exact H
theorem AttrV.cells {h : PH} {v : Value} {a : Attr} (hv : AttrV h v a) : ∃ cs : List Value, v = .agg cs.toArray ∧ cs.length = 19 ∧ cs.all flat = true := by
  obtain ⟨_, _, _, _, _, _, _, _, _, _, rfl⟩ := hv.shape
  exact ⟨_, rfl, rfl, rfl⟩
theorem AttrV.dfV {h : PH} {a : Attr} {u g u2 g2 x : Value} (hv : AttrV h (attrV a u g u2 g2 x) a) : AclV h (aclV a.df u2 g2) a.df := by
  obtain ⟨u', g', u2', g2', x', e, h1, h2, h3, h4, h5⟩ := hv
  unfold attrV at e
  simp only [Value.agg.injEq] at e
  have e := congrArg Array.toList e
  simp only [List.cons.injEq, true_and] at e
  obtain ⟨-, -, e3, e4, -⟩ := e
  subst e3 e4
  exact ⟨_, _, rfl, h3, h4⟩
attribute [local irreducible] W WL Does Exec Body Then inBlk RG WR row obj pblk
attribute [local irreducible] bits
set_option maxHeartbeats 4000000 in
theorem heirs_law (h : PH) (v0 v3 v4 : Value) (l : List Crx) (um ot : Int) (p : Attr) (ms : List Int) (hl : Sl encCr 4 h v0 l) (hlo : ∀ x ∈ l, CrOk h x) (hv : AttrV h v3 p) (hok : p.Ok) (hw : p.wide) (hms : Sl encU16 1 h v4 ms) (hmo : ∀ m ∈ ms, u16 m) (hu : u16 um) (ho : u16 ot) :
    Does Try.prog 5 [v0, .int .u16 um, .int .u16 ot, v3, v4] [] h (Ret fun r _ _ => r = .bool true) := by
  have cM := attrMayW_ref h p v3 hv hw hok
  have hal := fun h => alive_fn h
  have hv' := hv
  obtain ⟨la, lc, rfl⟩ := hl.shape
  obtain ⟨ma, mc, rfl⟩ := hms.shape
  obtain ⟨a1, a2, a3, a4, a5, c1, c2, c3, c4, c5, rfl⟩ := hv.shape
  unfold attrS attrV at cM ⊢
  refine Does_of_W Try.func5 rfl (n := 157) rfl rfl (by simp only [argE, Nat.reduceAdd] <;> rfl) ?_
  (repeat (first | refine W_seq ?_))
  refine W_region rfl ?_
  (refine WL_box rfl rfl rfl rfl rfl rfl ?_; intro b_)
  refine WL_is (X_assign rfl rfl) rfl rfl rfl ?_
  (repeat (first | refine WL_nil ?_ | refine Then_normal ?_ | refine W_seq ?_))
  generalize b_ = b8
  have go0 := hal h
  by_cases k1 : (l.length : Int) > 20
  · skip
    refine W_region rfl ?_
    refine WL_is (X_move rfl rfl) rfl rfl rfl ?_
    refine WL_is (X_len_sl rfl rfl rfl (by assumption)) rfl rfl rfl ?_
    refine WL_is (X_gtr_t rfl rfl rfl (by omega)) rfl rfl rfl ?_
    refine WL_is (X_move rfl rfl) rfl rfl rfl ?_
    refine WL_off rfl rfl rfl ?_
    refine WL_off rfl rfl rfl ?_
    refine WL_off rfl rfl rfl ?_
    refine WL_is (X_pick_t rfl rfl rfl) rfl rfl rfl ?_
    refine WL_is (X_move rfl rfl) rfl rfl rfl ?_
    refine WL_off rfl rfl rfl ?_
    refine WL_off rfl rfl rfl ?_
    refine WL_off rfl rfl rfl ?_
    refine WL_is (X_pick_t rfl rfl rfl) rfl rfl rfl ?_
    (repeat (first | refine WL_nil ?_ | refine Then_normal ?_ | refine W_seq ?_ | refine W_true rfl ?_))
    skip
    refine W_region rfl ?_
    refine WL_is (X_callv rfl rfl rfl Try.func9 rfl (by assumption)) rfl rfl rfl ?_
    refine WL_is (X_assign rfl rfl) rfl rfl rfl ?_
    (repeat (first | refine WL_nil ?_ | refine Then_normal ?_ | refine W_ret ?_ | refine Then_ret ?_))
    refine Body_end rfl rfl rfl (SubR.none _) ?_
    rfl
  by_cases k2 : (ms.length : Int) > 20
  · skip
    refine W_region rfl ?_
    refine WL_is (X_move rfl rfl) rfl rfl rfl ?_
    refine WL_is (X_len_sl rfl rfl rfl (by assumption)) rfl rfl rfl ?_
    refine WL_is (X_gtr_f rfl rfl rfl (by omega)) rfl rfl rfl ?_
    refine WL_is (X_move rfl rfl) rfl rfl rfl ?_
    refine WL_is (X_move rfl rfl) rfl rfl rfl ?_
    refine WL_is (X_len_sl rfl rfl rfl (by assumption)) rfl rfl rfl ?_
    refine WL_is (X_gtr_t rfl rfl rfl (by omega)) rfl rfl rfl ?_
    refine WL_is (X_pick_f rfl rfl rfl) rfl rfl rfl ?_
    refine WL_is (X_move rfl rfl) rfl rfl rfl ?_
    refine WL_off rfl rfl rfl ?_
    refine WL_off rfl rfl rfl ?_
    refine WL_off rfl rfl rfl ?_
    refine WL_is (X_pick_t rfl rfl rfl) rfl rfl rfl ?_
    (repeat (first | refine WL_nil ?_ | refine Then_normal ?_ | refine W_seq ?_ | refine W_true rfl ?_))
    skip
    refine W_region rfl ?_
    refine WL_is (X_callv rfl rfl rfl Try.func9 rfl (by assumption)) rfl rfl rfl ?_
    refine WL_is (X_assign rfl rfl) rfl rfl rfl ?_
    (repeat (first | refine WL_nil ?_ | refine Then_normal ?_ | refine W_ret ?_ | refine Then_ret ?_))
    refine Body_end rfl rfl rfl (SubR.none _) ?_
    rfl
  cases hm : p.may with
  | false =>
    rw [hm] at cM
    skip
    refine W_region rfl ?_
    refine WL_is (X_move rfl rfl) rfl rfl rfl ?_
    refine WL_is (X_len_sl rfl rfl rfl (by assumption)) rfl rfl rfl ?_
    refine WL_is (X_gtr_f rfl rfl rfl (by omega)) rfl rfl rfl ?_
    refine WL_is (X_move rfl rfl) rfl rfl rfl ?_
    refine WL_is (X_move rfl rfl) rfl rfl rfl ?_
    refine WL_is (X_len_sl rfl rfl rfl (by assumption)) rfl rfl rfl ?_
    refine WL_is (X_gtr_f rfl rfl rfl (by omega)) rfl rfl rfl ?_
    refine WL_is (X_pick_f rfl rfl rfl) rfl rfl rfl ?_
    refine WL_is (X_move rfl rfl) rfl rfl rfl ?_
    refine WL_is (X_loadA rfl rfl (by exact idx0) rfl rfl rfl) rfl rfl rfl ?_
    refine WL_is (X_callv rfl rfl rfl Try.func15 rfl (by assumption)) rfl rfl rfl ?_
    refine WL_is (X_not rfl rfl) rfl rfl rfl ?_
    refine WL_is (X_pick_f rfl rfl rfl) rfl rfl rfl ?_
    (repeat (first | refine WL_nil ?_ | refine Then_normal ?_ | refine W_seq ?_ | refine W_true rfl ?_))
    skip
    refine W_region rfl ?_
    refine WL_is (X_callv rfl rfl rfl Try.func9 rfl (by assumption)) rfl rfl rfl ?_
    refine WL_is (X_assign rfl rfl) rfl rfl rfl ?_
    (repeat (first | refine WL_nil ?_ | refine Then_normal ?_ | refine W_ret ?_ | refine Then_ret ?_))
    refine Body_end rfl rfl rfl (SubR.none _) ?_
    rfl
  | true =>
    rw [hm] at cM
    have hps := may_small hm
    skip
    refine W_region rfl ?_
    refine WL_is (X_move rfl rfl) rfl rfl rfl ?_
    refine WL_is (X_len_sl rfl rfl rfl (by assumption)) rfl rfl rfl ?_
    refine WL_is (X_gtr_f rfl rfl rfl (by omega)) rfl rfl rfl ?_
    refine WL_is (X_move rfl rfl) rfl rfl rfl ?_
    refine WL_is (X_move rfl rfl) rfl rfl rfl ?_
    refine WL_is (X_len_sl rfl rfl rfl (by assumption)) rfl rfl rfl ?_
    refine WL_is (X_gtr_f rfl rfl rfl (by omega)) rfl rfl rfl ?_
    refine WL_is (X_pick_f rfl rfl rfl) rfl rfl rfl ?_
    refine WL_is (X_move rfl rfl) rfl rfl rfl ?_
    refine WL_is (X_loadA rfl rfl (by exact idx0) rfl rfl rfl) rfl rfl rfl ?_
    refine WL_is (X_callv rfl rfl rfl Try.func15 rfl (by assumption)) rfl rfl rfl ?_
    refine WL_is (X_not rfl rfl) rfl rfl rfl ?_
    refine WL_is (X_pick_f rfl rfl rfl) rfl rfl rfl ?_
    (repeat (first | refine WL_nil ?_ | refine Then_normal ?_ | refine W_seq ?_ | refine W_skip ?_ | refine W_false rfl ?_))
    skip
    refine W_region rfl ?_
    refine WL_is (X_loadA rfl rfl (by exact idx0) rfl rfl rfl) rfl rfl rfl ?_
    refine WL_call rfl rfl rfl Try.func10 rfl rfl rfl rfl (attrCopyK_ref h p _ hv' hps) ?_
    rintro _ _ H1 L1 ⟨hO, rfl⟩
    obtain ⟨z1, z2, z3, z4, z5, e1, e2, e3, e4, e5, rfl⟩ := hO.shape
    simp only [List.nil_append]
    unfold attrS at hO ⊢
    unfold attrV
    (refine WL_alloc rfl rfl rfl rfl rfl rfl ?_; intro b_)
    generalize b_ = b11
    refine WL_store rfl rfl rfl (by exact idx0) rfl rfl rfl rfl rfl rfl rfl rfl rfl ?_
    (repeat (first | refine WL_nil ?_ | refine Then_normal ?_ | refine W_seq ?_))
    skip
    refine W_region rfl ?_
    refine WL_is (X_assign rfl rfl) rfl rfl rfl ?_
    (repeat (first | refine WL_nil ?_ | refine Then_normal ?_ | refine W_block ?_))
    have hl := hl.mono L1
    have hms := hms.mono L1
    have hv' := hv'.mono L1
    unfold attrS at hv'
    refine W_loop (X := HX) (L := fun x => ⟨[(12, .int .i64 (x.i : Int)), (11, .pointer (some ⟨b11, 0, none⟩)), (8, .pointer (some ⟨b8, 0, none⟩)), (0, .slice la l.length lc), (1, .int .u16 um), (2, .int .u16 ot), (4, .slice ma ms.length mc)], [], [blk b11 (attrC x.q x.y1 x.y2 x.y3 x.y4 x.y5) 31, blk b8 (attrC p (.slice a1 p.acc.us.length c1) (.slice a2 p.acc.gs.length c2) (.slice a3 p.df.us.length c3) (.slice a4 p.df.gs.length c4) (.slice a5 p.xs.length c5)) 31], x.g⟩)
      (p := fun x => le H1 x.g ∧ x.i ≤ l.length ∧ AttrV x.g (attrV x.q x.y1 x.y2 x.y3 x.y4 x.y5) x.q ∧ Heir p x.q) (μ := fun x => l.length - x.i) ⟨0, p, _, _, _, _, _, H1⟩ ⟨(by repeat (first | exact SubE_nil | refine SubE_cons rfl ?_)), rfl, SubR.refl _, rfl⟩ ⟨le.refl _, Nat.zero_le _, hO, Heir.self hok hm⟩ ?_
    rintro ⟨i, q, y1, y2, y3, y4, y5, g⟩ ⟨hg, hi, hq, hH⟩
    dsimp only at hg hi hq hH ⊢
    have hl := hl.mono hg
    have hms := hms.mono hg
    have hv' := hv'.mono hg
    have go1 := hal g
    by_cases hil : i < l.length
    · have hqs := may_small hH.may
      have hco := (hlo _ (List.getElem_mem hil)).mono (L1.trans hg)
      have hgs := hco.sl
      by_cases k4 : (l[i].2.gs.length : Int) > 4
      · (repeat (first | refine W_seq ?_))
        refine W_region rfl ?_
        refine WL_is (X_move rfl rfl) rfl rfl rfl ?_
        refine WL_is (X_move rfl rfl) rfl rfl rfl ?_
        refine WL_is (X_len_sl rfl rfl rfl (by assumption)) rfl rfl rfl ?_
        refine WL_is (X_lss_t rfl rfl rfl (by omega)) rfl rfl rfl ?_
        (repeat (first | refine WL_nil ?_ | refine Then_normal ?_ | refine W_seq ?_ | refine W_skip ?_ | refine W_block ?_ | refine W_true rfl ?_))
        skip
        refine W_region rfl ?_
        refine WL_is (X_move rfl rfl) rfl rfl rfl ?_
        refine WL_is (X_move rfl rfl) rfl rfl rfl ?_
        (refine WL_index_slN rfl rfl rfl rfl rfl (by assumption) (by omega) rfl rfl rfl ?_; intro p_ hp_)
        (refine WL_fieldAddr_at rfl rfl (by assumption) rfl rfl rfl rfl ?_; intro p_ hp_)
        refine WL_is (X_load1_at rfl rfl (by assumption) rfl rfl) rfl rfl rfl ?_
        refine WL_is (X_len_sl rfl rfl rfl (by assumption)) rfl rfl rfl ?_
        refine WL_is (X_gtr_t rfl rfl rfl (by omega)) rfl rfl rfl ?_
        (repeat (first | refine WL_nil ?_ | refine Then_normal ?_ | refine W_seq ?_ | refine W_true rfl ?_))
        skip
        refine W_region rfl ?_
        refine WL_is (X_callv rfl rfl rfl Try.func9 rfl (by assumption)) rfl rfl rfl ?_
        refine WL_is (X_assign rfl rfl) rfl rfl rfl ?_
        (repeat (first | refine WL_nil ?_ | refine Then_normal ?_ | refine W_ret ?_ | refine Then_ret ?_ | refine inBlk_ret ?_))
        refine Body_end rfl rfl rfl (SubR.none _) ?_
        rfl
      have h4 : l[i].2.gs.length ≤ 4 := by omega
      (repeat (first | refine W_seq ?_))
      refine W_region rfl ?_
      refine WL_is (X_move rfl rfl) rfl rfl rfl ?_
      refine WL_is (X_move rfl rfl) rfl rfl rfl ?_
      refine WL_is (X_len_sl rfl rfl rfl (by assumption)) rfl rfl rfl ?_
      refine WL_is (X_lss_t rfl rfl rfl (by omega)) rfl rfl rfl ?_
      (repeat (first | refine WL_nil ?_ | refine Then_normal ?_ | refine W_seq ?_ | refine W_skip ?_ | refine W_block ?_ | refine W_true rfl ?_))
      skip
      refine W_region rfl ?_
      refine WL_is (X_move rfl rfl) rfl rfl rfl ?_
      refine WL_is (X_move rfl rfl) rfl rfl rfl ?_
      (refine WL_index_slN rfl rfl rfl rfl rfl (by assumption) (by omega) rfl rfl rfl ?_; intro p_ hp_)
      (refine WL_fieldAddr_at rfl rfl (by assumption) rfl rfl rfl rfl ?_; intro p_ hp_)
      refine WL_is (X_load1_at rfl rfl (by assumption) rfl rfl) rfl rfl rfl ?_
      refine WL_is (X_len_sl rfl rfl rfl (by assumption)) rfl rfl rfl ?_
      refine WL_is (X_gtr_f rfl rfl rfl (by omega)) rfl rfl rfl ?_
      (repeat (first | refine WL_nil ?_ | refine Then_normal ?_ | refine W_seq ?_ | refine W_skip ?_ | refine W_false rfl ?_))
      skip
      refine W_region rfl ?_
      refine WL_is (X_assign rfl rfl) rfl rfl rfl ?_
      (repeat (first | refine WL_nil ?_ | refine Then_normal ?_ | refine W_seq ?_))
      skip
      refine W_region rfl ?_
      refine WL_is (X_move rfl rfl) rfl rfl rfl ?_
      refine WL_is (X_move rfl rfl) rfl rfl rfl ?_
      refine WL_is (X_len_sl rfl rfl rfl (by assumption)) rfl rfl rfl ?_
      refine WL_is (X_lss rfl rfl rfl) rfl rfl rfl ?_
      (repeat (first | refine WL_nil ?_ | refine Then_normal ?_))
      refine W_cutT (X := Int) (L := fun m => ⟨[(13, .int .u16 m), (12, .int .i64 (i : Int)), (11, .pointer (some ⟨b11, 0, none⟩)), (8, .pointer (some ⟨b8, 0, none⟩)), (0, .slice la l.length lc), (1, .int .u16 um), (2, .int .u16 ot), (4, .slice ma ms.length mc)], [], [blk b11 (attrC q y1 y2 y3 y4 y5) 31, blk b8 (attrC p (.slice a1 p.acc.us.length c1) (.slice a2 p.acc.gs.length c2) (.slice a3 p.df.us.length c3) (.slice a4 p.df.gs.length c4) (.slice a5 p.xs.length c5)) 31], g⟩) (fun m => u16 m) ?_ ?_
      · by_cases k5 : i < ms.length
        · rw [decide_eq_true (by omega)]
          (repeat (first | refine W_true rfl ?_))
          skip
          refine W_region rfl ?_
          refine WL_is (X_move rfl rfl) rfl rfl rfl ?_
          refine WL_is (X_move rfl rfl) rfl rfl rfl ?_
          (refine WL_index_slN rfl rfl rfl rfl rfl (by assumption) (by omega) rfl rfl rfl ?_; intro p_ hp_)
          refine WL_is (X_load1_at rfl rfl (by assumption) rfl rfl) rfl rfl rfl ?_
          refine WL_is (X_assign rfl rfl) rfl rfl rfl ?_
          (repeat (first | refine WL_nil ?_ | refine Then_normal ?_))
          exact ⟨_, ⟨(by repeat (first | exact SubE_nil | refine SubE_cons rfl ?_)), rfl, SubR.refl _, rfl⟩, hmo _ (List.getElem_mem _)⟩
        · rw [decide_eq_false (by omega)]
          (repeat (first | refine Then_normal ?_ | refine W_skip ?_ | refine W_false rfl ?_))
          exact ⟨_, ⟨(by repeat (first | exact SubE_nil | refine SubE_cons rfl ?_)), rfl, SubR.refl _, rfl⟩, ⟨by decide, by decide⟩⟩
      intro m hmm
      have hcv : ∀ g', le g g' → CredV g' (credV l[i].2 l[i].1) l[i].2 := fun g' hl => ⟨_, rfl, hgs.mono hl⟩
      have hb1 := bornB_is h4 hH.may 1 ⟨by decide, by decide⟩
      have hb2 := bornB_is h4 hH.may 2 ⟨by decide, by decide⟩
      have cN1 := fun g' (hl : le g g') => (new_fn g' _ _ um q _ 1 m (hcv g' hl) (hq.mono hl) hqs hH.ok (by omega) hu hmm).wkn fun _ _ _ _ h => NewB.of h.1 hb1
      have cN2 := fun g' (hl : le g g') => (new_fn g' _ _ um q _ 2 m (hcv g' hl) (hq.mono hl) hqs hH.ok (by omega) hu hmm).wkn fun _ _ _ _ h => NewB.of h.1 hb2
      have cN3 := fun g' (hl : le g g') => (new_fn g' _ _ ot q _ 2 m (hcv g' hl) (hq.mono hl) hqs hH.ok (by omega) ho hmm).wkn fun _ _ _ _ h => NewB.of h.1 hb2
      have hF1 : (born l[i].2 um q 1 m).hd = false := born1.1
      have hF2 : bits .and .u8 p.bits 2 ≠ 0 → (born l[i].2 um q 1 m).gid = p.gid := fun h => born1.2.trans (hH.bornG h)
      have hD := hH.next (um := um) (m := m) hco.ok
      have hO := hH.next (um := ot) (m := m) hco.ok
      have hDO : p.hd = true → born l[i].2 um q 2 m = born l[i].2 ot q 2 m := fun h => born_um (hH.hd.trans h)
      generalize born l[i].2 um q 1 m = F at cN1 hF1 hF2
      generalize born l[i].2 um q 2 m = D at cN2 hD hDO
      generalize born l[i].2 ot q 2 m = O at cN3 hO hDO
      have gg1 := le.refl g
      (repeat (first | refine W_seq ?_))
      refine W_drawT pairH rfl rfl rfl 13 rfl _ [] [blk b11 (attrC q y1 y2 y3 y4 y5) 31, blk b8 (attrC p (.slice a1 p.acc.us.length c1) (.slice a2 p.acc.gs.length c2) (.slice a3 p.df.us.length c3) (.slice a4 p.df.gs.length c4) (.slice a5 p.xs.length c5)) 31] rfl rfl rfl (SubE.refl _) rfl ?_
      refine RGT_step (by decide) (by decide) ?_
      refine RG_val rfl rfl (fun _ => rfl) (fun _ => X_move rfl rfl) ?_
      refine RG_nil ?_
      refine RGT_step (by decide) (by decide) ?_
      refine RG_val rfl rfl (fun _ => rfl) (fun _ => X_move rfl rfl) ?_
      refine RG_nil ?_
      refine RGT_step (by decide) (by decide) ?_
      (refine RG_index_slN rfl rfl rfl (fun _ => rfl) (fun _ => rfl) (by assumption) (by omega) rfl rfl (fun _ => rfl) ?_; intro p_ hp_)
      refine RG_nil ?_
      refine RGT_step (by decide) (by decide) ?_
      refine RG_val rfl rfl (fun _ => rfl) (fun _ => X_loadA_at rfl rfl (by assumption) rfl rfl rfl) ?_
      refine RG_nil ?_
      refine RGT_step (by decide) (by decide) ?_
      refine RG_val rfl rfl (fun _ => rfl) (fun _ => X_move rfl rfl) ?_
      refine RG_nil ?_
      refine RGT_step (by decide) (by decide) ?_
      refine RG_val rfl rfl (fun _ => rfl) (fun _ => X_loadA rfl rfl (by exact idx0) rfl rfl rfl) ?_
      refine RG_nil ?_
      refine RGT_step (by decide) (by decide) ?_
      refine RG_val rfl rfl (fun _ => rfl) (fun _ => X_move rfl rfl) ?_
      refine RG_nil ?_
      refine RGT_step (by decide) (by decide) ?_
      refine RG_callo (fun v h => NewB F v h) (fun v h h' hl ⟨w, e, hw⟩ => ⟨w, e, hw.mono hl⟩) rfl (fun _ => rfl) (fun _ => rfl) Try.func11 rfl rfl rfl (fun _ => rfl) (fun vs h' hl _ => (cN1 h' (gg1.trans hl)).wkn (fun _ _ _ _ h => h)) ?_
      refine RG_nil ?_
      refine RGT_step (by decide) (by decide) ?_
      refine RG_gen (.opq (fun v h => NewB F v h) [] fun _ => []) (fun v h h' hl ⟨w, e, hw⟩ => ⟨w, e, hw.mono hl⟩) rfl rfl (fun _ => rfl) (fun vs h' hl hf => (X_move (v := vs 7) rfl rfl).mono fun e R' h'' _ ⟨e1, e2, e3⟩ => ⟨vs 7, e1, by rw [e3]; exact hf.1, by rw [e2]; exact SubR.refl _⟩) ?_
      refine RG_nil ?_
      refine RGT_step (by decide) (by decide) ?_
      refine RG_gen (.opq (fun v h => AttrV h v F) [] fun _ => []) (fun v h h' hl hv => hv.mono hl) rfl rfl (fun _ => rfl) (fun vs h' hl hf => ?_) ?_
      · obtain ⟨w, hw, hdr⟩ := hf.1
        refine Exec.mono (X_extract (vs := [w, .int .i64 0]) (v := w) rfl ?_ rfl) ?_
        · exact congrArg some hw
        · exact fun e R' h'' _ ⟨e1, e2, e3⟩ => ⟨w, e1, by rw [e3]; exact hdr, by rw [e2]; exact SubR.refl _⟩
      refine RG_nil ?_
      refine RGT_step (by decide) (by decide) ?_
      refine RG_valO (.int .i64 0) rfl rfl (fun _ => rfl) (fun vs h' hl hf => ?_) ?_
      · obtain ⟨w, hw, hdr⟩ := hf.1
        refine X_extract (vs := [w, .int .i64 0]) rfl ?_ rfl
        exact congrArg some hw
      refine RG_nil ?_
      refine RGT_alloc rfl rfl rfl rfl rfl rfl rfl rfl (fun _ => rfl) ?_
      refine RGT_store (u := fun vs => vs 9) (sz := 19) (G := fun v cs => v = .agg cs.toArray) rfl rfl rfl rfl rfl rfl rfl (fun _ => rfl) (fun _ => rfl) (fun vs h' hl hf => ?_) rfl rfl rfl (fun _ => rfl) ?_
      · have hd7 : AttrV h' (vs 9) F := hf.2.1
        obtain ⟨cs, e1, e2, e3⟩ := hd7.cells
        exact ⟨cs, by rw [e1]; rfl, e2, e3, e1⟩
      refine RGT_nil ?_
      refine ⟨⟨by simp [allC], .inl fun vs g1 hl4 hf => ?_⟩, .inl rfl⟩
      have gg2 := gg1.trans hl4
      have hl := hl.mono hl4
      skip
      clear hl4
      simp only [endE, endR, List.cons_append, List.nil_append, List.append_nil, Nat.zero_add, Nat.reduceAdd]
      obtain ⟨-, ⟨q9, hq9⟩, hd7, -⟩ := hf
      change AttrV g1 (vs 9) F at hd7
      change WL _ _ _ _ ⟨_, _, [gblk (vs 11) (fun cs => vs 9 = .agg cs.toArray) 31, blk b11 (attrC q y1 y2 y3 y4 y5) 31, blk b8 (attrC p (.slice a1 p.acc.us.length c1) (.slice a2 p.acc.gs.length c2) (.slice a3 p.df.us.length c3) (.slice a4 p.df.gs.length c4) (.slice a5 p.xs.length c5)) 31], g1⟩ _ _
      refine WL_updE (UpdE.gblk 0 rfl) ?_
      rintro _ _ - ⟨rfl, Ab, cs, hb9, hcs, rfl⟩
      rw [hb9]
      obtain ⟨A1, A2, A3, A4, A5, As1, As2, As3, As4, As5, hz⟩ := hd7.shape
      have hcs2 : cs = attrC F (.slice A1 F.acc.us.length As1) (.slice A2 F.acc.gs.length As2) (.slice A3 F.df.us.length As3) (.slice A4 F.df.gs.length As4) (.slice A5 F.xs.length As5) := by
        rw [hz] at hcs
        unfold attrS attrV at hcs
        simp only [Value.agg.injEq] at hcs
        have := congrArg Array.toList hcs
        simpa using this.symm
      subst hcs2
      rw [hz] at hd7
      have hA := hd7
      unfold attrS at hA
      clear hz hcs hb9 hq9 hd7
      simp only [List.set_cons_zero]
      refine WL_is (X_assign rfl rfl) rfl rfl rfl ?_
      (repeat (first | refine WL_nil ?_ | refine Then_normal ?_ | refine W_seq ?_))
      refine W_keep (SubE_cons (t := 12) rfl (SubE_cons (t := 11) rfl (SubE_cons (t := 8) rfl (SubE_cons (t := 0) rfl (SubE_cons (t := 1) rfl (SubE_cons (t := 2) rfl (SubE_cons (t := 4) rfl (SubE_cons (t := 13) rfl (SubE_cons (t := 14) rfl (SubE_cons (t := 15) rfl SubE_nil)))))))))) ?_
      skip
      refine W_drawT pairH rfl rfl rfl 13 rfl _ [] [blk Ab (attrC F (.slice A1 F.acc.us.length As1) (.slice A2 F.acc.gs.length As2) (.slice A3 F.df.us.length As3) (.slice A4 F.df.gs.length As4) (.slice A5 F.xs.length As5)) 31, blk b11 (attrC q y1 y2 y3 y4 y5) 31, blk b8 (attrC p (.slice a1 p.acc.us.length c1) (.slice a2 p.acc.gs.length c2) (.slice a3 p.df.us.length c3) (.slice a4 p.df.gs.length c4) (.slice a5 p.xs.length c5)) 31] rfl rfl rfl (SubE.refl _) rfl ?_
      refine RGT_step (by decide) (by decide) ?_
      refine RG_val rfl rfl (fun _ => rfl) (fun _ => X_move rfl rfl) ?_
      refine RG_nil ?_
      refine RGT_step (by decide) (by decide) ?_
      refine RG_val rfl rfl (fun _ => rfl) (fun _ => X_move rfl rfl) ?_
      refine RG_nil ?_
      refine RGT_step (by decide) (by decide) ?_
      (refine RG_index_slN rfl rfl rfl (fun _ => rfl) (fun _ => rfl) (by assumption) (by omega) rfl rfl (fun _ => rfl) ?_; intro p_ hp_)
      refine RG_nil ?_
      refine RGT_step (by decide) (by decide) ?_
      refine RG_val rfl rfl (fun _ => rfl) (fun _ => X_loadA_at rfl rfl (by assumption) rfl rfl rfl) ?_
      refine RG_nil ?_
      refine RGT_step (by decide) (by decide) ?_
      refine RG_val rfl rfl (fun _ => rfl) (fun _ => X_move rfl rfl) ?_
      refine RG_nil ?_
      refine RGT_step (by decide) (by decide) ?_
      refine RG_val rfl rfl (fun _ => rfl) (fun _ => X_loadA rfl rfl (by exact idx1) rfl rfl rfl) ?_
      refine RG_nil ?_
      refine RGT_step (by decide) (by decide) ?_
      refine RG_val rfl rfl (fun _ => rfl) (fun _ => X_move rfl rfl) ?_
      refine RG_nil ?_
      refine RGT_step (by decide) (by decide) ?_
      refine RG_callo (fun v h => NewB D v h) (fun v h h' hl ⟨w, e, hw⟩ => ⟨w, e, hw.mono hl⟩) rfl (fun _ => rfl) (fun _ => rfl) Try.func11 rfl rfl rfl (fun _ => rfl) (fun vs h' hl _ => (cN2 h' (gg2.trans hl)).wkn (fun _ _ _ _ h => h)) ?_
      refine RG_nil ?_
      refine RGT_step (by decide) (by decide) ?_
      refine RG_gen (.opq (fun v h => NewB D v h) [] fun _ => []) (fun v h h' hl ⟨w, e, hw⟩ => ⟨w, e, hw.mono hl⟩) rfl rfl (fun _ => rfl) (fun vs h' hl hf => (X_move (v := vs 7) rfl rfl).mono fun e R' h'' _ ⟨e1, e2, e3⟩ => ⟨vs 7, e1, by rw [e3]; exact hf.1, by rw [e2]; exact SubR.refl _⟩) ?_
      refine RG_nil ?_
      refine RGT_step (by decide) (by decide) ?_
      refine RG_gen (.opq (fun v h => AttrV h v D) [] fun _ => []) (fun v h h' hl hv => hv.mono hl) rfl rfl (fun _ => rfl) (fun vs h' hl hf => ?_) ?_
      · obtain ⟨w, hw, hdr⟩ := hf.1
        refine Exec.mono (X_extract (vs := [w, .int .i64 0]) (v := w) rfl ?_ rfl) ?_
        · exact congrArg some hw
        · exact fun e R' h'' _ ⟨e1, e2, e3⟩ => ⟨w, e1, by rw [e3]; exact hdr, by rw [e2]; exact SubR.refl _⟩
      refine RG_nil ?_
      refine RGT_step (by decide) (by decide) ?_
      refine RG_valO (.int .i64 0) rfl rfl (fun _ => rfl) (fun vs h' hl hf => ?_) ?_
      · obtain ⟨w, hw, hdr⟩ := hf.1
        refine X_extract (vs := [w, .int .i64 0]) rfl ?_ rfl
        exact congrArg some hw
      refine RG_nil ?_
      refine RGT_alloc rfl rfl rfl rfl rfl rfl rfl rfl (fun _ => rfl) ?_
      refine RGT_store (u := fun vs => vs 9) (sz := 19) (G := fun v cs => v = .agg cs.toArray) rfl rfl rfl rfl rfl rfl rfl (fun _ => rfl) (fun _ => rfl) (fun vs h' hl hf => ?_) rfl rfl rfl (fun _ => rfl) ?_
      · have hd7 : AttrV h' (vs 9) D := hf.2.1
        obtain ⟨cs, e1, e2, e3⟩ := hd7.cells
        exact ⟨cs, by rw [e1]; rfl, e2, e3, e1⟩
      refine RGT_nil ?_
      refine ⟨⟨by simp [allC], .inl fun vs g2 hl4 hf => ?_⟩, .inl rfl⟩
      have gg3 := gg2.trans hl4
      have hl := hl.mono hl4
      have hA := hA.mono hl4
      clear hl4
      simp only [endE, endR, List.cons_append, List.nil_append, List.append_nil, Nat.zero_add, Nat.reduceAdd]
      obtain ⟨-, ⟨q9, hq9⟩, hd7, -⟩ := hf
      change AttrV g2 (vs 9) D at hd7
      change WL _ _ _ _ ⟨_, _, [gblk (vs 11) (fun cs => vs 9 = .agg cs.toArray) 31, blk Ab (attrC F (.slice A1 F.acc.us.length As1) (.slice A2 F.acc.gs.length As2) (.slice A3 F.df.us.length As3) (.slice A4 F.df.gs.length As4) (.slice A5 F.xs.length As5)) 31, blk b11 (attrC q y1 y2 y3 y4 y5) 31, blk b8 (attrC p (.slice a1 p.acc.us.length c1) (.slice a2 p.acc.gs.length c2) (.slice a3 p.df.us.length c3) (.slice a4 p.df.gs.length c4) (.slice a5 p.xs.length c5)) 31], g2⟩ _ _
      refine WL_updE (UpdE.gblk 0 rfl) ?_
      rintro _ _ - ⟨rfl, Bb, cs, hb9, hcs, rfl⟩
      rw [hb9]
      obtain ⟨B1, B2, B3, B4, B5, Bs1, Bs2, Bs3, Bs4, Bs5, hz⟩ := hd7.shape
      have hcs2 : cs = attrC D (.slice B1 D.acc.us.length Bs1) (.slice B2 D.acc.gs.length Bs2) (.slice B3 D.df.us.length Bs3) (.slice B4 D.df.gs.length Bs4) (.slice B5 D.xs.length Bs5) := by
        rw [hz] at hcs
        unfold attrS attrV at hcs
        simp only [Value.agg.injEq] at hcs
        have := congrArg Array.toList hcs
        simpa using this.symm
      subst hcs2
      rw [hz] at hd7
      have hB := hd7
      unfold attrS at hB
      clear hz hcs hb9 hq9 hd7
      simp only [List.set_cons_zero]
      refine WL_is (X_assign rfl rfl) rfl rfl rfl ?_
      (repeat (first | refine WL_nil ?_ | refine Then_normal ?_ | refine W_seq ?_))
      refine W_keep (SubE_cons (t := 12) rfl (SubE_cons (t := 11) rfl (SubE_cons (t := 8) rfl (SubE_cons (t := 0) rfl (SubE_cons (t := 1) rfl (SubE_cons (t := 2) rfl (SubE_cons (t := 4) rfl (SubE_cons (t := 13) rfl (SubE_cons (t := 14) rfl (SubE_cons (t := 15) rfl (SubE_cons (t := 16) rfl (SubE_cons (t := 17) rfl SubE_nil)))))))))))) ?_
      skip
      refine W_drawT pairH rfl rfl rfl 13 rfl _ [] [blk Bb (attrC D (.slice B1 D.acc.us.length Bs1) (.slice B2 D.acc.gs.length Bs2) (.slice B3 D.df.us.length Bs3) (.slice B4 D.df.gs.length Bs4) (.slice B5 D.xs.length Bs5)) 31, blk Ab (attrC F (.slice A1 F.acc.us.length As1) (.slice A2 F.acc.gs.length As2) (.slice A3 F.df.us.length As3) (.slice A4 F.df.gs.length As4) (.slice A5 F.xs.length As5)) 31, blk b11 (attrC q y1 y2 y3 y4 y5) 31, blk b8 (attrC p (.slice a1 p.acc.us.length c1) (.slice a2 p.acc.gs.length c2) (.slice a3 p.df.us.length c3) (.slice a4 p.df.gs.length c4) (.slice a5 p.xs.length c5)) 31] rfl rfl rfl (SubE.refl _) rfl ?_
      refine RGT_step (by decide) (by decide) ?_
      refine RG_val rfl rfl (fun _ => rfl) (fun _ => X_move rfl rfl) ?_
      refine RG_nil ?_
      refine RGT_step (by decide) (by decide) ?_
      refine RG_val rfl rfl (fun _ => rfl) (fun _ => X_move rfl rfl) ?_
      refine RG_nil ?_
      refine RGT_step (by decide) (by decide) ?_
      (refine RG_index_slN rfl rfl rfl (fun _ => rfl) (fun _ => rfl) (by assumption) (by omega) rfl rfl (fun _ => rfl) ?_; intro p_ hp_)
      refine RG_nil ?_
      refine RGT_step (by decide) (by decide) ?_
      refine RG_val rfl rfl (fun _ => rfl) (fun _ => X_loadA_at rfl rfl (by assumption) rfl rfl rfl) ?_
      refine RG_nil ?_
      refine RGT_step (by decide) (by decide) ?_
      refine RG_val rfl rfl (fun _ => rfl) (fun _ => X_move rfl rfl) ?_
      refine RG_nil ?_
      refine RGT_step (by decide) (by decide) ?_
      refine RG_val rfl rfl (fun _ => rfl) (fun _ => X_loadA rfl rfl (by exact idx2) rfl rfl rfl) ?_
      refine RG_nil ?_
      refine RGT_step (by decide) (by decide) ?_
      refine RG_val rfl rfl (fun _ => rfl) (fun _ => X_move rfl rfl) ?_
      refine RG_nil ?_
      refine RGT_step (by decide) (by decide) ?_
      refine RG_callo (fun v h => NewB O v h) (fun v h h' hl ⟨w, e, hw⟩ => ⟨w, e, hw.mono hl⟩) rfl (fun _ => rfl) (fun _ => rfl) Try.func11 rfl rfl rfl (fun _ => rfl) (fun vs h' hl _ => (cN3 h' (gg3.trans hl)).wkn (fun _ _ _ _ h => h)) ?_
      refine RG_nil ?_
      refine RGT_step (by decide) (by decide) ?_
      refine RG_gen (.opq (fun v h => NewB O v h) [] fun _ => []) (fun v h h' hl ⟨w, e, hw⟩ => ⟨w, e, hw.mono hl⟩) rfl rfl (fun _ => rfl) (fun vs h' hl hf => (X_move (v := vs 7) rfl rfl).mono fun e R' h'' _ ⟨e1, e2, e3⟩ => ⟨vs 7, e1, by rw [e3]; exact hf.1, by rw [e2]; exact SubR.refl _⟩) ?_
      refine RG_nil ?_
      refine RGT_step (by decide) (by decide) ?_
      refine RG_gen (.opq (fun v h => AttrV h v O) [] fun _ => []) (fun v h h' hl hv => hv.mono hl) rfl rfl (fun _ => rfl) (fun vs h' hl hf => ?_) ?_
      · obtain ⟨w, hw, hdr⟩ := hf.1
        refine Exec.mono (X_extract (vs := [w, .int .i64 0]) (v := w) rfl ?_ rfl) ?_
        · exact congrArg some hw
        · exact fun e R' h'' _ ⟨e1, e2, e3⟩ => ⟨w, e1, by rw [e3]; exact hdr, by rw [e2]; exact SubR.refl _⟩
      refine RG_nil ?_
      refine RGT_step (by decide) (by decide) ?_
      refine RG_valO (.int .i64 0) rfl rfl (fun _ => rfl) (fun vs h' hl hf => ?_) ?_
      · obtain ⟨w, hw, hdr⟩ := hf.1
        refine X_extract (vs := [w, .int .i64 0]) rfl ?_ rfl
        exact congrArg some hw
      refine RG_nil ?_
      refine RGT_alloc rfl rfl rfl rfl rfl rfl rfl rfl (fun _ => rfl) ?_
      refine RGT_store (u := fun vs => vs 9) (sz := 19) (G := fun v cs => v = .agg cs.toArray) rfl rfl rfl rfl rfl rfl rfl (fun _ => rfl) (fun _ => rfl) (fun vs h' hl hf => ?_) rfl rfl rfl (fun _ => rfl) ?_
      · have hd7 : AttrV h' (vs 9) O := hf.2.1
        obtain ⟨cs, e1, e2, e3⟩ := hd7.cells
        exact ⟨cs, by rw [e1]; rfl, e2, e3, e1⟩
      refine RGT_nil ?_
      refine ⟨⟨by simp [allC], .inl fun vs g3 hl4 hf => ?_⟩, .inl rfl⟩
      have gg4 := gg3.trans hl4
      have hl := hl.mono hl4
      have hA := hA.mono hl4
      have hB := hB.mono hl4
      clear hl4
      simp only [endE, endR, List.cons_append, List.nil_append, List.append_nil, Nat.zero_add, Nat.reduceAdd]
      obtain ⟨-, ⟨q9, hq9⟩, hd7, -⟩ := hf
      change AttrV g3 (vs 9) O at hd7
      change WL _ _ _ _ ⟨_, _, [gblk (vs 11) (fun cs => vs 9 = .agg cs.toArray) 31, blk Bb (attrC D (.slice B1 D.acc.us.length Bs1) (.slice B2 D.acc.gs.length Bs2) (.slice B3 D.df.us.length Bs3) (.slice B4 D.df.gs.length Bs4) (.slice B5 D.xs.length Bs5)) 31, blk Ab (attrC F (.slice A1 F.acc.us.length As1) (.slice A2 F.acc.gs.length As2) (.slice A3 F.df.us.length As3) (.slice A4 F.df.gs.length As4) (.slice A5 F.xs.length As5)) 31, blk b11 (attrC q y1 y2 y3 y4 y5) 31, blk b8 (attrC p (.slice a1 p.acc.us.length c1) (.slice a2 p.acc.gs.length c2) (.slice a3 p.df.us.length c3) (.slice a4 p.df.gs.length c4) (.slice a5 p.xs.length c5)) 31], g3⟩ _ _
      refine WL_updE (UpdE.gblk 0 rfl) ?_
      rintro _ _ - ⟨rfl, Cb, cs, hb9, hcs, rfl⟩
      rw [hb9]
      obtain ⟨C1, C2, C3, C4, C5, Cs1, Cs2, Cs3, Cs4, Cs5, hz⟩ := hd7.shape
      have hcs2 : cs = attrC O (.slice C1 O.acc.us.length Cs1) (.slice C2 O.acc.gs.length Cs2) (.slice C3 O.df.us.length Cs3) (.slice C4 O.df.gs.length Cs4) (.slice C5 O.xs.length Cs5) := by
        rw [hz] at hcs
        unfold attrS attrV at hcs
        simp only [Value.agg.injEq] at hcs
        have := congrArg Array.toList hcs
        simpa using this.symm
      subst hcs2
      rw [hz] at hd7
      have hC := hd7
      unfold attrS at hC
      clear hz hcs hb9 hq9 hd7
      simp only [List.set_cons_zero]
      refine WL_is (X_assign rfl rfl) rfl rfl rfl ?_
      (repeat (first | refine WL_nil ?_ | refine Then_normal ?_ | refine W_seq ?_))
      refine W_keep (SubE_cons (t := 12) rfl (SubE_cons (t := 11) rfl (SubE_cons (t := 8) rfl (SubE_cons (t := 0) rfl (SubE_cons (t := 1) rfl (SubE_cons (t := 2) rfl (SubE_cons (t := 4) rfl (SubE_cons (t := 13) rfl (SubE_cons (t := 14) rfl (SubE_cons (t := 15) rfl (SubE_cons (t := 16) rfl (SubE_cons (t := 17) rfl (SubE_cons (t := 18) rfl (SubE_cons (t := 19) rfl SubE_nil)))))))))))))) ?_
      have hDs := may_small hD.may
      have hOs := may_small hO.may
      have cS1 := same_acl_ref _ D.df p.df _ _ hB.dfV (hv'.mono gg4).dfV hDs.df hps.df
      rw [decide_eq_true hD.df] at cS1
      have cS2 := fun h : p.hd = true => attrSame_ref _ D O _ _ hB hC hDs hOs
      have cS2 : p.hd = true → Does Try.prog 13 [_, _] [] _ (Ret fun r _ _ => r = .bool true) := fun h => by have := cS2 h; rw [decide_eq_true (hDO h)] at this; exact this
      have hgg := hg.trans gg4
      clear hq hms hal go0 go1 cN1 cN2 cN3 hcv hb1 hb2 hH hqs hco hgs hv' hA hO hw hps hDO cM
      have e1 := hF2
      have e2 := hD.gid
      obtain ⟨pb, pu, pg, pacc, ph, pdf, px⟩ := p
      obtain ⟨fb, fu, fg, facc, fh, fdf, fx⟩ := F
      have hDh := hD.hd
      have hDb := hD.bit
      have hDg := hD.gid
      obtain ⟨db, du, dg, dacc, dh, ddf, dx⟩ := D
      dsimp only at hF1 hF2 hDh hDb hDg cS1 cS2
      subst hF1 hDh
      unfold attrV at cS2
      simp only [aclV] at cS1
      cases dh with
      | false =>
        clear cS2
        by_cases hsg : bits .and .u8 pb 2 = 0
        · skip
          refine W_region rfl ?_
          refine WL_is (X_move rfl rfl) rfl rfl rfl ?_
          refine WL_is (X_neq_f rfl rfl rfl (by omega)) rfl rfl rfl ?_
          refine WL_is (X_move rfl rfl) rfl rfl rfl ?_
          refine WL_is (X_move rfl rfl) rfl rfl rfl ?_
          refine WL_is (X_neq_f rfl rfl rfl (by omega)) rfl rfl rfl ?_
          refine WL_is (X_pick_f rfl rfl rfl) rfl rfl rfl ?_
          refine WL_is (X_move rfl rfl) rfl rfl rfl ?_
          refine WL_is (X_move rfl rfl) rfl rfl rfl ?_
          refine WL_is (X_neq_f rfl rfl rfl (by omega)) rfl rfl rfl ?_
          refine WL_is (X_pick_f rfl rfl rfl) rfl rfl rfl ?_
          refine WL_is (X_move rfl rfl) rfl rfl rfl ?_
          refine WL_is (X_fieldAddr rfl rfl rfl (by simp only [Nat.zero_add] <;> rfl)) rfl rfl rfl ?_
          refine WL_is (X_load1 rfl rfl (by exact idx2) rfl rfl) rfl rfl rfl ?_
          refine WL_is (X_pick_f rfl rfl rfl) rfl rfl rfl ?_
          refine WL_is (X_move rfl rfl) rfl rfl rfl ?_
          refine WL_is (X_fieldAddr rfl rfl rfl (by simp only [Nat.zero_add] <;> rfl)) rfl rfl rfl ?_
          refine WL_is (X_load1 rfl rfl (by exact idx1) rfl rfl) rfl rfl rfl ?_
          refine WL_is (X_fieldAddr rfl rfl rfl (by simp only [Nat.zero_add] <;> rfl)) rfl rfl rfl ?_
          refine WL_is (X_load1 rfl rfl (by exact idx4) rfl rfl) rfl rfl rfl ?_
          refine WL_is (X_neB rfl rfl rfl rfl) rfl rfl rfl ?_
          refine WL_is (X_pick_f rfl rfl rfl) rfl rfl rfl ?_
          refine WL_is (X_move rfl rfl) rfl rfl rfl ?_
          refine WL_is (X_fieldAddr rfl rfl rfl (by simp only [Nat.zero_add] <;> rfl)) rfl rfl rfl ?_
          refine WL_is (X_loadA rfl rfl (by exact idx1) rfl rfl rfl) rfl rfl rfl ?_
          refine WL_is (X_fieldAddr rfl rfl rfl (by simp only [Nat.zero_add] <;> rfl)) rfl rfl rfl ?_
          refine WL_is (X_loadA rfl rfl (by exact idx4) rfl rfl rfl) rfl rfl rfl ?_
          refine WL_is (X_callv rfl rfl rfl Try.func16 rfl (by assumption)) rfl rfl rfl ?_
          refine WL_is (X_not rfl rfl) rfl rfl rfl ?_
          refine WL_is (X_pick_f rfl rfl rfl) rfl rfl rfl ?_
          (repeat (first | refine WL_nil ?_ | refine Then_normal ?_ | refine W_seq ?_ | refine W_skip ?_ | refine W_false rfl ?_))
          skip
          refine W_region rfl ?_
          refine WL_is (X_fieldAddr rfl rfl rfl (by simp only [Nat.zero_add] <;> rfl)) rfl rfl rfl ?_
          refine WL_is (X_load1 rfl rfl (by exact idx4) rfl rfl) rfl rfl rfl ?_
          refine WL_is (X_move rfl rfl) rfl rfl rfl ?_
          refine WL_off rfl rfl rfl ?_
          refine WL_off rfl rfl rfl ?_
          refine WL_off rfl rfl rfl ?_
          refine WL_off rfl rfl rfl ?_
          refine WL_is (X_pick_f rfl rfl rfl) rfl rfl rfl ?_
          (repeat (first | refine WL_nil ?_ | refine Then_normal ?_ | refine W_seq ?_ | refine W_skip ?_ | refine W_false rfl ?_))
          skip
          refine W_region rfl ?_
          refine WL_is (X_fieldAddr rfl rfl rfl (by simp only [Nat.zero_add] <;> rfl)) rfl rfl rfl ?_
          refine WL_is (X_load1 rfl rfl (by exact idx1) rfl rfl) rfl rfl rfl ?_
          refine WL_is (X_and rfl rfl rfl) rfl rfl rfl ?_
          refine WL_is (X_fieldAddr rfl rfl rfl (by simp only [Nat.zero_add] <;> rfl)) rfl rfl rfl ?_
          refine WL_is (X_load1 rfl rfl (by exact idx4) rfl rfl) rfl rfl rfl ?_
          refine WL_is (X_and rfl rfl rfl) rfl rfl rfl ?_
          refine WL_is (X_neq_f rfl rfl rfl (by omega)) rfl rfl rfl ?_
          refine WL_is (X_move rfl rfl) rfl rfl rfl ?_
          refine WL_is (X_fieldAddr rfl rfl rfl (by simp only [Nat.zero_add] <;> rfl)) rfl rfl rfl ?_
          refine WL_is (X_load1 rfl rfl (by exact idx4) rfl rfl) rfl rfl rfl ?_
          refine WL_is (X_and rfl rfl rfl) rfl rfl rfl ?_
          refine WL_is (X_neq_f rfl rfl rfl (by omega)) rfl rfl rfl ?_
          refine WL_is (X_move rfl rfl) rfl rfl rfl ?_
          refine WL_off rfl rfl rfl ?_
          refine WL_off rfl rfl rfl ?_
          refine WL_off rfl rfl rfl ?_
          refine WL_off rfl rfl rfl ?_
          refine WL_off rfl rfl rfl ?_
          refine WL_off rfl rfl rfl ?_
          refine WL_off rfl rfl rfl ?_
          refine WL_off rfl rfl rfl ?_
          refine WL_off rfl rfl rfl ?_
          refine WL_off rfl rfl rfl ?_
          refine WL_off rfl rfl rfl ?_
          refine WL_off rfl rfl rfl ?_
          refine WL_is (X_pick_f rfl rfl rfl) rfl rfl rfl ?_
          refine WL_is (X_pick_f rfl rfl rfl) rfl rfl rfl ?_
          (repeat (first | refine WL_nil ?_ | refine Then_normal ?_ | refine W_skip ?_ | refine W_false rfl ?_))
          skip
          refine W_region rfl ?_
          refine WL_is (X_loadA rfl rfl (by exact idx1) rfl rfl rfl) rfl rfl rfl ?_
          refine WL_store rfl rfl rfl (by exact idx3) rfl rfl rfl rfl rfl rfl rfl rfl rfl ?_
          (repeat (first | refine WL_nil ?_ | refine Then_normal ?_ | refine inBlk_normal ?_))
          skip
          refine W_region rfl ?_
          refine WL_is (X_move rfl rfl) rfl rfl rfl ?_
          refine WL_is (X_addW rfl rfl rfl (by exact wrap_i64_in (by omega) (by omega))) rfl rfl rfl ?_
          refine WL_is (X_assign rfl rfl) rfl rfl rfl ?_
          (repeat (first | refine WL_nil ?_ | refine Then_normal ?_))
          exact ⟨⟨i + 1, _, _, _, _, _, _, _⟩, ⟨(by repeat (first | exact SubE_nil | refine SubE_cons rfl ?_)), rfl, .skip _ (.skip _ (.skip _ (SubR.refl _))), rfl⟩, ⟨hgg, hil, hB, hD⟩, by dsimp only; omega⟩
        · replace e1 := e1 hsg
          replace e2 := e2 hsg
          skip
          refine W_region rfl ?_
          refine WL_is (X_move rfl rfl) rfl rfl rfl ?_
          refine WL_is (X_neq_f rfl rfl rfl (by omega)) rfl rfl rfl ?_
          refine WL_is (X_move rfl rfl) rfl rfl rfl ?_
          refine WL_is (X_move rfl rfl) rfl rfl rfl ?_
          refine WL_is (X_neq_f rfl rfl rfl (by omega)) rfl rfl rfl ?_
          refine WL_is (X_pick_f rfl rfl rfl) rfl rfl rfl ?_
          refine WL_is (X_move rfl rfl) rfl rfl rfl ?_
          refine WL_is (X_move rfl rfl) rfl rfl rfl ?_
          refine WL_is (X_neq_f rfl rfl rfl (by omega)) rfl rfl rfl ?_
          refine WL_is (X_pick_f rfl rfl rfl) rfl rfl rfl ?_
          refine WL_is (X_move rfl rfl) rfl rfl rfl ?_
          refine WL_is (X_fieldAddr rfl rfl rfl (by simp only [Nat.zero_add] <;> rfl)) rfl rfl rfl ?_
          refine WL_is (X_load1 rfl rfl (by exact idx2) rfl rfl) rfl rfl rfl ?_
          refine WL_is (X_pick_f rfl rfl rfl) rfl rfl rfl ?_
          refine WL_is (X_move rfl rfl) rfl rfl rfl ?_
          refine WL_is (X_fieldAddr rfl rfl rfl (by simp only [Nat.zero_add] <;> rfl)) rfl rfl rfl ?_
          refine WL_is (X_load1 rfl rfl (by exact idx1) rfl rfl) rfl rfl rfl ?_
          refine WL_is (X_fieldAddr rfl rfl rfl (by simp only [Nat.zero_add] <;> rfl)) rfl rfl rfl ?_
          refine WL_is (X_load1 rfl rfl (by exact idx4) rfl rfl) rfl rfl rfl ?_
          refine WL_is (X_neB rfl rfl rfl rfl) rfl rfl rfl ?_
          refine WL_is (X_pick_f rfl rfl rfl) rfl rfl rfl ?_
          refine WL_is (X_move rfl rfl) rfl rfl rfl ?_
          refine WL_is (X_fieldAddr rfl rfl rfl (by simp only [Nat.zero_add] <;> rfl)) rfl rfl rfl ?_
          refine WL_is (X_loadA rfl rfl (by exact idx1) rfl rfl rfl) rfl rfl rfl ?_
          refine WL_is (X_fieldAddr rfl rfl rfl (by simp only [Nat.zero_add] <;> rfl)) rfl rfl rfl ?_
          refine WL_is (X_loadA rfl rfl (by exact idx4) rfl rfl rfl) rfl rfl rfl ?_
          refine WL_is (X_callv rfl rfl rfl Try.func16 rfl (by assumption)) rfl rfl rfl ?_
          refine WL_is (X_not rfl rfl) rfl rfl rfl ?_
          refine WL_is (X_pick_f rfl rfl rfl) rfl rfl rfl ?_
          (repeat (first | refine WL_nil ?_ | refine Then_normal ?_ | refine W_seq ?_ | refine W_skip ?_ | refine W_false rfl ?_))
          skip
          refine W_region rfl ?_
          refine WL_is (X_fieldAddr rfl rfl rfl (by simp only [Nat.zero_add] <;> rfl)) rfl rfl rfl ?_
          refine WL_is (X_load1 rfl rfl (by exact idx4) rfl rfl) rfl rfl rfl ?_
          refine WL_is (X_move rfl rfl) rfl rfl rfl ?_
          refine WL_off rfl rfl rfl ?_
          refine WL_off rfl rfl rfl ?_
          refine WL_off rfl rfl rfl ?_
          refine WL_off rfl rfl rfl ?_
          refine WL_is (X_pick_f rfl rfl rfl) rfl rfl rfl ?_
          (repeat (first | refine WL_nil ?_ | refine Then_normal ?_ | refine W_seq ?_ | refine W_skip ?_ | refine W_false rfl ?_))
          skip
          refine W_region rfl ?_
          refine WL_is (X_fieldAddr rfl rfl rfl (by simp only [Nat.zero_add] <;> rfl)) rfl rfl rfl ?_
          refine WL_is (X_load1 rfl rfl (by exact idx1) rfl rfl) rfl rfl rfl ?_
          refine WL_is (X_and rfl rfl rfl) rfl rfl rfl ?_
          refine WL_is (X_fieldAddr rfl rfl rfl (by simp only [Nat.zero_add] <;> rfl)) rfl rfl rfl ?_
          refine WL_is (X_load1 rfl rfl (by exact idx4) rfl rfl) rfl rfl rfl ?_
          refine WL_is (X_and rfl rfl rfl) rfl rfl rfl ?_
          refine WL_is (X_neq_f rfl rfl rfl (by omega)) rfl rfl rfl ?_
          refine WL_is (X_move rfl rfl) rfl rfl rfl ?_
          refine WL_is (X_fieldAddr rfl rfl rfl (by simp only [Nat.zero_add] <;> rfl)) rfl rfl rfl ?_
          refine WL_is (X_load1 rfl rfl (by exact idx4) rfl rfl) rfl rfl rfl ?_
          refine WL_is (X_and rfl rfl rfl) rfl rfl rfl ?_
          refine WL_is (X_neq_t rfl rfl rfl (by omega)) rfl rfl rfl ?_
          refine WL_is (X_move rfl rfl) rfl rfl rfl ?_
          refine WL_is (X_fieldAddr rfl rfl rfl (by simp only [Nat.zero_add] <;> rfl)) rfl rfl rfl ?_
          refine WL_is (X_load1 rfl rfl (by exact idx1) rfl rfl) rfl rfl rfl ?_
          refine WL_is (X_fieldAddr rfl rfl rfl (by simp only [Nat.zero_add] <;> rfl)) rfl rfl rfl ?_
          refine WL_is (X_load1 rfl rfl (by exact idx4) rfl rfl) rfl rfl rfl ?_
          refine WL_is (X_neq_f rfl rfl rfl (by omega)) rfl rfl rfl ?_
          refine WL_is (X_move rfl rfl) rfl rfl rfl ?_
          refine WL_is (X_fieldAddr rfl rfl rfl (by simp only [Nat.zero_add] <;> rfl)) rfl rfl rfl ?_
          refine WL_is (X_load1 rfl rfl (by exact idx2) rfl rfl) rfl rfl rfl ?_
          refine WL_is (X_fieldAddr rfl rfl rfl (by simp only [Nat.zero_add] <;> rfl)) rfl rfl rfl ?_
          refine WL_is (X_load1 rfl rfl (by exact idx4) rfl rfl) rfl rfl rfl ?_
          refine WL_is (X_neq_f rfl rfl rfl (by omega)) rfl rfl rfl ?_
          refine WL_is (X_pick_f rfl rfl rfl) rfl rfl rfl ?_
          refine WL_is (X_pick_t rfl rfl rfl) rfl rfl rfl ?_
          refine WL_is (X_pick_f rfl rfl rfl) rfl rfl rfl ?_
          (repeat (first | refine WL_nil ?_ | refine Then_normal ?_ | refine W_skip ?_ | refine W_false rfl ?_))
          skip
          refine W_region rfl ?_
          refine WL_is (X_loadA rfl rfl (by exact idx1) rfl rfl rfl) rfl rfl rfl ?_
          refine WL_store rfl rfl rfl (by exact idx3) rfl rfl rfl rfl rfl rfl rfl rfl rfl ?_
          (repeat (first | refine WL_nil ?_ | refine Then_normal ?_ | refine inBlk_normal ?_))
          skip
          refine W_region rfl ?_
          refine WL_is (X_move rfl rfl) rfl rfl rfl ?_
          refine WL_is (X_addW rfl rfl rfl (by exact wrap_i64_in (by omega) (by omega))) rfl rfl rfl ?_
          refine WL_is (X_assign rfl rfl) rfl rfl rfl ?_
          (repeat (first | refine WL_nil ?_ | refine Then_normal ?_))
          exact ⟨⟨i + 1, _, _, _, _, _, _, _⟩, ⟨(by repeat (first | exact SubE_nil | refine SubE_cons rfl ?_)), rfl, .skip _ (.skip _ (.skip _ (SubR.refl _))), rfl⟩, ⟨hgg, hil, hB, hD⟩, by dsimp only; omega⟩
      | true =>
        replace cS2 := cS2 rfl
        by_cases hsg : bits .and .u8 pb 2 = 0
        · skip
          refine W_region rfl ?_
          refine WL_is (X_move rfl rfl) rfl rfl rfl ?_
          refine WL_is (X_neq_f rfl rfl rfl (by omega)) rfl rfl rfl ?_
          refine WL_is (X_move rfl rfl) rfl rfl rfl ?_
          refine WL_is (X_move rfl rfl) rfl rfl rfl ?_
          refine WL_is (X_neq_f rfl rfl rfl (by omega)) rfl rfl rfl ?_
          refine WL_is (X_pick_f rfl rfl rfl) rfl rfl rfl ?_
          refine WL_is (X_move rfl rfl) rfl rfl rfl ?_
          refine WL_is (X_move rfl rfl) rfl rfl rfl ?_
          refine WL_is (X_neq_f rfl rfl rfl (by omega)) rfl rfl rfl ?_
          refine WL_is (X_pick_f rfl rfl rfl) rfl rfl rfl ?_
          refine WL_is (X_move rfl rfl) rfl rfl rfl ?_
          refine WL_is (X_fieldAddr rfl rfl rfl (by simp only [Nat.zero_add] <;> rfl)) rfl rfl rfl ?_
          refine WL_is (X_load1 rfl rfl (by exact idx2) rfl rfl) rfl rfl rfl ?_
          refine WL_is (X_pick_f rfl rfl rfl) rfl rfl rfl ?_
          refine WL_is (X_move rfl rfl) rfl rfl rfl ?_
          refine WL_is (X_fieldAddr rfl rfl rfl (by simp only [Nat.zero_add] <;> rfl)) rfl rfl rfl ?_
          refine WL_is (X_load1 rfl rfl (by exact idx1) rfl rfl) rfl rfl rfl ?_
          refine WL_is (X_fieldAddr rfl rfl rfl (by simp only [Nat.zero_add] <;> rfl)) rfl rfl rfl ?_
          refine WL_is (X_load1 rfl rfl (by exact idx4) rfl rfl) rfl rfl rfl ?_
          refine WL_is (X_neB rfl rfl rfl rfl) rfl rfl rfl ?_
          refine WL_is (X_pick_f rfl rfl rfl) rfl rfl rfl ?_
          refine WL_is (X_move rfl rfl) rfl rfl rfl ?_
          refine WL_is (X_fieldAddr rfl rfl rfl (by simp only [Nat.zero_add] <;> rfl)) rfl rfl rfl ?_
          refine WL_is (X_loadA rfl rfl (by exact idx1) rfl rfl rfl) rfl rfl rfl ?_
          refine WL_is (X_fieldAddr rfl rfl rfl (by simp only [Nat.zero_add] <;> rfl)) rfl rfl rfl ?_
          refine WL_is (X_loadA rfl rfl (by exact idx4) rfl rfl rfl) rfl rfl rfl ?_
          refine WL_is (X_callv rfl rfl rfl Try.func16 rfl (by assumption)) rfl rfl rfl ?_
          refine WL_is (X_not rfl rfl) rfl rfl rfl ?_
          refine WL_is (X_pick_f rfl rfl rfl) rfl rfl rfl ?_
          (repeat (first | refine WL_nil ?_ | refine Then_normal ?_ | refine W_seq ?_ | refine W_skip ?_ | refine W_false rfl ?_))
          skip
          refine W_region rfl ?_
          refine WL_is (X_fieldAddr rfl rfl rfl (by simp only [Nat.zero_add] <;> rfl)) rfl rfl rfl ?_
          refine WL_is (X_load1 rfl rfl (by exact idx4) rfl rfl) rfl rfl rfl ?_
          refine WL_is (X_move rfl rfl) rfl rfl rfl ?_
          refine WL_is (X_loadA rfl rfl (by exact idx1) rfl rfl rfl) rfl rfl rfl ?_
          refine WL_is (X_loadA rfl rfl (by exact idx0) rfl rfl rfl) rfl rfl rfl ?_
          refine WL_is (X_callv rfl rfl rfl Try.func13 rfl (by assumption)) rfl rfl rfl ?_
          refine WL_is (X_not rfl rfl) rfl rfl rfl ?_
          refine WL_is (X_pick_t rfl rfl rfl) rfl rfl rfl ?_
          (repeat (first | refine WL_nil ?_ | refine Then_normal ?_ | refine W_seq ?_ | refine W_skip ?_ | refine W_false rfl ?_))
          skip
          refine W_region rfl ?_
          refine WL_is (X_fieldAddr rfl rfl rfl (by simp only [Nat.zero_add] <;> rfl)) rfl rfl rfl ?_
          refine WL_is (X_load1 rfl rfl (by exact idx1) rfl rfl) rfl rfl rfl ?_
          refine WL_is (X_and rfl rfl rfl) rfl rfl rfl ?_
          refine WL_is (X_fieldAddr rfl rfl rfl (by simp only [Nat.zero_add] <;> rfl)) rfl rfl rfl ?_
          refine WL_is (X_load1 rfl rfl (by exact idx4) rfl rfl) rfl rfl rfl ?_
          refine WL_is (X_and rfl rfl rfl) rfl rfl rfl ?_
          refine WL_is (X_neq_f rfl rfl rfl (by omega)) rfl rfl rfl ?_
          refine WL_is (X_move rfl rfl) rfl rfl rfl ?_
          refine WL_is (X_fieldAddr rfl rfl rfl (by simp only [Nat.zero_add] <;> rfl)) rfl rfl rfl ?_
          refine WL_is (X_load1 rfl rfl (by exact idx4) rfl rfl) rfl rfl rfl ?_
          refine WL_is (X_and rfl rfl rfl) rfl rfl rfl ?_
          refine WL_is (X_neq_f rfl rfl rfl (by omega)) rfl rfl rfl ?_
          refine WL_is (X_move rfl rfl) rfl rfl rfl ?_
          refine WL_off rfl rfl rfl ?_
          refine WL_off rfl rfl rfl ?_
          refine WL_off rfl rfl rfl ?_
          refine WL_off rfl rfl rfl ?_
          refine WL_off rfl rfl rfl ?_
          refine WL_off rfl rfl rfl ?_
          refine WL_off rfl rfl rfl ?_
          refine WL_off rfl rfl rfl ?_
          refine WL_off rfl rfl rfl ?_
          refine WL_off rfl rfl rfl ?_
          refine WL_off rfl rfl rfl ?_
          refine WL_off rfl rfl rfl ?_
          refine WL_is (X_pick_f rfl rfl rfl) rfl rfl rfl ?_
          refine WL_is (X_pick_f rfl rfl rfl) rfl rfl rfl ?_
          (repeat (first | refine WL_nil ?_ | refine Then_normal ?_ | refine W_skip ?_ | refine W_false rfl ?_))
          skip
          refine W_region rfl ?_
          refine WL_is (X_loadA rfl rfl (by exact idx1) rfl rfl rfl) rfl rfl rfl ?_
          refine WL_store rfl rfl rfl (by exact idx3) rfl rfl rfl rfl rfl rfl rfl rfl rfl ?_
          (repeat (first | refine WL_nil ?_ | refine Then_normal ?_ | refine inBlk_normal ?_))
          skip
          refine W_region rfl ?_
          refine WL_is (X_move rfl rfl) rfl rfl rfl ?_
          refine WL_is (X_addW rfl rfl rfl (by exact wrap_i64_in (by omega) (by omega))) rfl rfl rfl ?_
          refine WL_is (X_assign rfl rfl) rfl rfl rfl ?_
          (repeat (first | refine WL_nil ?_ | refine Then_normal ?_))
          exact ⟨⟨i + 1, _, _, _, _, _, _, _⟩, ⟨(by repeat (first | exact SubE_nil | refine SubE_cons rfl ?_)), rfl, .skip _ (.skip _ (.skip _ (SubR.refl _))), rfl⟩, ⟨hgg, hil, hB, hD⟩, by dsimp only; omega⟩
        · replace e1 := e1 hsg
          replace e2 := e2 hsg
          skip
          refine W_region rfl ?_
          refine WL_is (X_move rfl rfl) rfl rfl rfl ?_
          refine WL_is (X_neq_f rfl rfl rfl (by omega)) rfl rfl rfl ?_
          refine WL_is (X_move rfl rfl) rfl rfl rfl ?_
          refine WL_is (X_move rfl rfl) rfl rfl rfl ?_
          refine WL_is (X_neq_f rfl rfl rfl (by omega)) rfl rfl rfl ?_
          refine WL_is (X_pick_f rfl rfl rfl) rfl rfl rfl ?_
          refine WL_is (X_move rfl rfl) rfl rfl rfl ?_
          refine WL_is (X_move rfl rfl) rfl rfl rfl ?_
          refine WL_is (X_neq_f rfl rfl rfl (by omega)) rfl rfl rfl ?_
          refine WL_is (X_pick_f rfl rfl rfl) rfl rfl rfl ?_
          refine WL_is (X_move rfl rfl) rfl rfl rfl ?_
          refine WL_is (X_fieldAddr rfl rfl rfl (by simp only [Nat.zero_add] <;> rfl)) rfl rfl rfl ?_
          refine WL_is (X_load1 rfl rfl (by exact idx2) rfl rfl) rfl rfl rfl ?_
          refine WL_is (X_pick_f rfl rfl rfl) rfl rfl rfl ?_
          refine WL_is (X_move rfl rfl) rfl rfl rfl ?_
          refine WL_is (X_fieldAddr rfl rfl rfl (by simp only [Nat.zero_add] <;> rfl)) rfl rfl rfl ?_
          refine WL_is (X_load1 rfl rfl (by exact idx1) rfl rfl) rfl rfl rfl ?_
          refine WL_is (X_fieldAddr rfl rfl rfl (by simp only [Nat.zero_add] <;> rfl)) rfl rfl rfl ?_
          refine WL_is (X_load1 rfl rfl (by exact idx4) rfl rfl) rfl rfl rfl ?_
          refine WL_is (X_neB rfl rfl rfl rfl) rfl rfl rfl ?_
          refine WL_is (X_pick_f rfl rfl rfl) rfl rfl rfl ?_
          refine WL_is (X_move rfl rfl) rfl rfl rfl ?_
          refine WL_is (X_fieldAddr rfl rfl rfl (by simp only [Nat.zero_add] <;> rfl)) rfl rfl rfl ?_
          refine WL_is (X_loadA rfl rfl (by exact idx1) rfl rfl rfl) rfl rfl rfl ?_
          refine WL_is (X_fieldAddr rfl rfl rfl (by simp only [Nat.zero_add] <;> rfl)) rfl rfl rfl ?_
          refine WL_is (X_loadA rfl rfl (by exact idx4) rfl rfl rfl) rfl rfl rfl ?_
          refine WL_is (X_callv rfl rfl rfl Try.func16 rfl (by assumption)) rfl rfl rfl ?_
          refine WL_is (X_not rfl rfl) rfl rfl rfl ?_
          refine WL_is (X_pick_f rfl rfl rfl) rfl rfl rfl ?_
          (repeat (first | refine WL_nil ?_ | refine Then_normal ?_ | refine W_seq ?_ | refine W_skip ?_ | refine W_false rfl ?_))
          skip
          refine W_region rfl ?_
          refine WL_is (X_fieldAddr rfl rfl rfl (by simp only [Nat.zero_add] <;> rfl)) rfl rfl rfl ?_
          refine WL_is (X_load1 rfl rfl (by exact idx4) rfl rfl) rfl rfl rfl ?_
          refine WL_is (X_move rfl rfl) rfl rfl rfl ?_
          refine WL_is (X_loadA rfl rfl (by exact idx1) rfl rfl rfl) rfl rfl rfl ?_
          refine WL_is (X_loadA rfl rfl (by exact idx0) rfl rfl rfl) rfl rfl rfl ?_
          refine WL_is (X_callv rfl rfl rfl Try.func13 rfl (by assumption)) rfl rfl rfl ?_
          refine WL_is (X_not rfl rfl) rfl rfl rfl ?_
          refine WL_is (X_pick_t rfl rfl rfl) rfl rfl rfl ?_
          (repeat (first | refine WL_nil ?_ | refine Then_normal ?_ | refine W_seq ?_ | refine W_skip ?_ | refine W_false rfl ?_))
          skip
          refine W_region rfl ?_
          refine WL_is (X_fieldAddr rfl rfl rfl (by simp only [Nat.zero_add] <;> rfl)) rfl rfl rfl ?_
          refine WL_is (X_load1 rfl rfl (by exact idx1) rfl rfl) rfl rfl rfl ?_
          refine WL_is (X_and rfl rfl rfl) rfl rfl rfl ?_
          refine WL_is (X_fieldAddr rfl rfl rfl (by simp only [Nat.zero_add] <;> rfl)) rfl rfl rfl ?_
          refine WL_is (X_load1 rfl rfl (by exact idx4) rfl rfl) rfl rfl rfl ?_
          refine WL_is (X_and rfl rfl rfl) rfl rfl rfl ?_
          refine WL_is (X_neq_f rfl rfl rfl (by omega)) rfl rfl rfl ?_
          refine WL_is (X_move rfl rfl) rfl rfl rfl ?_
          refine WL_is (X_fieldAddr rfl rfl rfl (by simp only [Nat.zero_add] <;> rfl)) rfl rfl rfl ?_
          refine WL_is (X_load1 rfl rfl (by exact idx4) rfl rfl) rfl rfl rfl ?_
          refine WL_is (X_and rfl rfl rfl) rfl rfl rfl ?_
          refine WL_is (X_neq_t rfl rfl rfl (by omega)) rfl rfl rfl ?_
          refine WL_is (X_move rfl rfl) rfl rfl rfl ?_
          refine WL_is (X_fieldAddr rfl rfl rfl (by simp only [Nat.zero_add] <;> rfl)) rfl rfl rfl ?_
          refine WL_is (X_load1 rfl rfl (by exact idx1) rfl rfl) rfl rfl rfl ?_
          refine WL_is (X_fieldAddr rfl rfl rfl (by simp only [Nat.zero_add] <;> rfl)) rfl rfl rfl ?_
          refine WL_is (X_load1 rfl rfl (by exact idx4) rfl rfl) rfl rfl rfl ?_
          refine WL_is (X_neq_f rfl rfl rfl (by omega)) rfl rfl rfl ?_
          refine WL_is (X_move rfl rfl) rfl rfl rfl ?_
          refine WL_is (X_fieldAddr rfl rfl rfl (by simp only [Nat.zero_add] <;> rfl)) rfl rfl rfl ?_
          refine WL_is (X_load1 rfl rfl (by exact idx2) rfl rfl) rfl rfl rfl ?_
          refine WL_is (X_fieldAddr rfl rfl rfl (by simp only [Nat.zero_add] <;> rfl)) rfl rfl rfl ?_
          refine WL_is (X_load1 rfl rfl (by exact idx4) rfl rfl) rfl rfl rfl ?_
          refine WL_is (X_neq_f rfl rfl rfl (by omega)) rfl rfl rfl ?_
          refine WL_is (X_pick_f rfl rfl rfl) rfl rfl rfl ?_
          refine WL_is (X_pick_t rfl rfl rfl) rfl rfl rfl ?_
          refine WL_is (X_pick_f rfl rfl rfl) rfl rfl rfl ?_
          (repeat (first | refine WL_nil ?_ | refine Then_normal ?_ | refine W_skip ?_ | refine W_false rfl ?_))
          skip
          refine W_region rfl ?_
          refine WL_is (X_loadA rfl rfl (by exact idx1) rfl rfl rfl) rfl rfl rfl ?_
          refine WL_store rfl rfl rfl (by exact idx3) rfl rfl rfl rfl rfl rfl rfl rfl rfl ?_
          (repeat (first | refine WL_nil ?_ | refine Then_normal ?_ | refine inBlk_normal ?_))
          skip
          refine W_region rfl ?_
          refine WL_is (X_move rfl rfl) rfl rfl rfl ?_
          refine WL_is (X_addW rfl rfl rfl (by exact wrap_i64_in (by omega) (by omega))) rfl rfl rfl ?_
          refine WL_is (X_assign rfl rfl) rfl rfl rfl ?_
          (repeat (first | refine WL_nil ?_ | refine Then_normal ?_))
          exact ⟨⟨i + 1, _, _, _, _, _, _, _⟩, ⟨(by repeat (first | exact SubE_nil | refine SubE_cons rfl ?_)), rfl, .skip _ (.skip _ (.skip _ (SubR.refl _))), rfl⟩, ⟨hgg, hil, hB, hD⟩, by dsimp only; omega⟩
    · (repeat (first | refine W_seq ?_))
      refine W_region rfl ?_
      refine WL_is (X_move rfl rfl) rfl rfl rfl ?_
      refine WL_is (X_move rfl rfl) rfl rfl rfl ?_
      refine WL_is (X_len_sl rfl rfl rfl (by assumption)) rfl rfl rfl ?_
      refine WL_is (X_lss_f rfl rfl rfl (by omega)) rfl rfl rfl ?_
      (repeat (first | refine WL_nil ?_ | refine Then_normal ?_ | refine W_seq ?_ | refine W_exit ?_ | refine Then_exit ?_ | refine inBlk_here ?_ | refine W_false rfl ?_))
      skip
      refine W_region rfl ?_
      refine WL_is (X_callv rfl rfl rfl Try.func9 rfl (by assumption)) rfl rfl rfl ?_
      refine WL_is (X_assign rfl rfl) rfl rfl rfl ?_
      (repeat (first | refine WL_nil ?_ | refine Then_normal ?_ | refine W_ret ?_))
      refine Body_end rfl rfl rfl (SubR.none _) ?_
      rfl
end Go.Proofs.Ytcgmbfgmofcemaa
