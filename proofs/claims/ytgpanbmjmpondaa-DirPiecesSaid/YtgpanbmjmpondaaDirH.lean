/- Directories: what is listed (dir.List). -/
import Derived.Test.YtgpanbmjmpondaaDirG
namespace Go.Proofs.Ytgpanbmjmpondaa
set_option maxRecDepth 4000
open Go Go.Par PH
def encE (e : Spo × Slo) : List Value := .int .i64 (cookS e.1) :: encSlo e.2
theorem elemE : ElemT Try.prog 39 59 4 40 := ElemT.mk' rfl rfl
theorem lenE (l : List (Spo × Slo)) : ∀ x ∈ l, (encE x).length = 4 := fun _ _ => rfl
theorem flatE (l : List (Spo × Slo)) : ∀ x ∈ l, (encE x).all flat = true := fun _ _ => rfl
def behL (f : Int) (l : List (Spo × Slo)) : List (Spo × Slo) := l.filter fun e => decide (f < cookS e.1)
def listL (l : List (Spo × Slo)) (f m : Int) : List (Spo × Slo) := (behL f l).take m.toNat
def listR (d : Dr) (f m : Int) : List (Spo × Slo) × Int := if mayD d = true ∧ 0 ≤ m then (listL (allL d) f m, 0) else ([], 2)
def ListA (q : List (Spo × Slo) × Int) (r : Value) (h : PH) : Prop := ∃ v, r = .tuple #[v, .int .i64 q.2] ∧ Sl encE 4 h v q.1
theorem slots_ok {d : Dr} {e : Spo × Slo} (he : e ∈ slotsL d) : ∃ k c s : Nat, k < 4 ∧ s < 10 ∧ ∃ hc : c < (d.row k).length, e.1 = ⟨k, c, s⟩ ∧ e.2 = ((d.row k)[c].sl[s]?).getD slo0 := by
  simp only [slotsL, restF, lineF, List.drop_zero, List.mem_flatMap, List.mem_range] at he
  obtain ⟨c, _, k, hk, he⟩ := he
  unfold cellK at he
  split at he
  · rename_i x hx
    obtain ⟨hc, hx⟩ := List.getElem?_eq_some_iff.1 hx
    simp only [itemsS, List.drop_zero, List.mem_map, List.mem_range] at he
    obtain ⟨s, hs, rfl⟩ := he
    exact ⟨k, c, s, hk, hs, hc, rfl, by rw [hx]⟩
  · cases he
theorem spot_ok {d : Dr} {e : Spo × Slo} (he : e ∈ slotsL d) : (0 ≤ e.1.b ∧ e.1.b ≤ 3) ∧ (0 ≤ e.1.c ∧ e.1.c < maxR d) ∧ (0 ≤ e.1.s ∧ e.1.s ≤ 9) := by
  obtain ⟨k, c, s, hk, hs, hc, h1, _⟩ := slots_ok he
  have := row_le d k
  rw [h1]
  refine ⟨⟨?_, ?_⟩, ⟨?_, ?_⟩, ⟨?_, ?_⟩⟩ <;> dsimp only <;> omega
theorem behL_app (f : Int) (a b : List (Spo × Slo)) : behL f (a ++ b) = behL f a ++ behL f b := List.filter_append ..
theorem behL_len (f : Int) (l : List (Spo × Slo)) : (behL f (neL l)).length ≤ l.length := by
  unfold behL neL
  exact Nat.le_trans (List.length_filter_le ..) (List.length_filter_le ..)
structure LX2 where
  v : Value
  L : List (Spo × Slo)
attribute [local irreducible] W WL Does Exec Body Then inBlk RG WR row obj pblk
set_option maxHeartbeats 4000000 in
theorem list_fn (h : PH) (v : Value) (d : Dr) (f m : Int) (hv : DrV h v d) (hb : maxR d ≤ 1000000) (hn : nmsOk d) : Does Try.prog 13 [v, .int .i64 f, .int .i64 m] [] h (Ret fun r R' h' => ListA (listR d f m) r h' ∧ R' = []) := by
  have hck := check_fn h v d hv hb hn
  have hs := slots_fn h _ d hv hb
  have hsl := slots_len d
  obtain ⟨x0, x1, x2, x3, rfl, h0, h1, h2, h3⟩ := hv
  obtain ⟨_, _, rfl⟩ := h0.shape
  obtain ⟨_, _, rfl⟩ := h1.shape
  obtain ⟨_, _, rfl⟩ := h2.shape
  obtain ⟨_, _, rfl⟩ := h3.shape
  unfold drV at hs hck ⊢
  unfold checkD at hck
  unfold listR
  refine Does_of_WM Try.func13 rfl (n := 44) rfl rfl (by simp only [argE, Nat.reduceAdd] <;> rfl) ?_
  (repeat (first | refine W_seq ?_))
  refine W_region rfl ?_
  (refine WL_box rfl rfl rfl rfl rfl rfl ?_; intro b_)
  generalize b_ = b3
  (refine WL_box rfl rfl rfl rfl rfl rfl ?_; intro b_)
  generalize b_ = b4
  (refine WL_box rfl rfl rfl rfl rfl rfl ?_; intro b_)
  generalize b_ = b5
  refine WL_is (X_assign rfl rfl) rfl rfl rfl ?_
  refine WL_is (X_assign rfl rfl) rfl rfl rfl ?_
  (repeat (first | refine WL_nil ?_ | refine Then_normal ?_ | refine W_seq ?_))
  cases hm : mayD d with
  | false =>
    rw [hm, if_neg (by decide)] at hck
    skip
    refine W_region rfl ?_
    refine WL_is (X_loadA rfl rfl (by exact idx2) rfl rfl rfl) rfl rfl rfl ?_
    refine WL_is (X_callv rfl rfl rfl Try.func10 rfl (by assumption)) rfl rfl rfl ?_
    refine WL_is (X_neq_t rfl rfl rfl (by omega)) rfl rfl rfl ?_
    refine WL_is (X_move rfl rfl) rfl rfl rfl ?_
    refine WL_off rfl rfl rfl ?_
    refine WL_off rfl rfl rfl ?_
    refine WL_is (X_pick_t rfl rfl rfl) rfl rfl rfl ?_
    (repeat (first | refine WL_nil ?_ | refine Then_normal ?_ | refine W_seq ?_ | refine W_true rfl ?_))
    skip
    refine W_region rfl ?_
    refine WL_is (X_assign rfl rfl) rfl rfl rfl ?_
    refine WL_is (X_assign rfl rfl) rfl rfl rfl ?_
    (repeat (first | refine WL_nil ?_ | refine Then_normal ?_ | refine W_ret ?_ | refine Then_ret ?_))
    refine BodyM_0 (Body_vals (.cons (.tmp rfl) (.cons (.tmp rfl) .nil)) rfl ?_)
    exact UpdE.of (Upd.sub (SubR.none _)) ⟨⟨_, by rw [if_neg (by simp)], by rw [if_neg (by simp)]; exact Sl.nil⟩, rfl⟩
  | true =>
    rw [hm, if_pos rfl] at hck
    by_cases hm0 : m < 0
    · skip
      refine W_region rfl ?_
      refine WL_is (X_loadA rfl rfl (by exact idx2) rfl rfl rfl) rfl rfl rfl ?_
      refine WL_is (X_callv rfl rfl rfl Try.func10 rfl (by assumption)) rfl rfl rfl ?_
      refine WL_is (X_neq_f rfl rfl rfl (by omega)) rfl rfl rfl ?_
      refine WL_is (X_move rfl rfl) rfl rfl rfl ?_
      refine WL_is (X_load1 rfl rfl (by exact idx0) rfl rfl) rfl rfl rfl ?_
      refine WL_is (X_lss_t rfl rfl rfl (by omega)) rfl rfl rfl ?_
      refine WL_is (X_pick_f rfl rfl rfl) rfl rfl rfl ?_
      (repeat (first | refine WL_nil ?_ | refine Then_normal ?_ | refine W_seq ?_ | refine W_true rfl ?_))
      skip
      refine W_region rfl ?_
      refine WL_is (X_assign rfl rfl) rfl rfl rfl ?_
      refine WL_is (X_assign rfl rfl) rfl rfl rfl ?_
      (repeat (first | refine WL_nil ?_ | refine Then_normal ?_ | refine W_ret ?_ | refine Then_ret ?_))
      refine BodyM_0 (Body_vals (.cons (.tmp rfl) (.cons (.tmp rfl) .nil)) rfl ?_)
      exact UpdE.of (Upd.sub (SubR.none _)) ⟨⟨_, by rw [if_neg (by omega)], by rw [if_neg (by omega)]; exact Sl.nil⟩, rfl⟩
    · rw [if_pos ⟨rfl, by omega⟩]
      obtain ⟨mn, rfl⟩ := Int.eq_ofNat_of_zero_le (show 0 ≤ m by omega)
      skip
      refine W_region rfl ?_
      refine WL_is (X_loadA rfl rfl (by exact idx2) rfl rfl rfl) rfl rfl rfl ?_
      refine WL_is (X_callv rfl rfl rfl Try.func10 rfl (by assumption)) rfl rfl rfl ?_
      refine WL_is (X_neq_f rfl rfl rfl (by omega)) rfl rfl rfl ?_
      refine WL_is (X_move rfl rfl) rfl rfl rfl ?_
      refine WL_is (X_load1 rfl rfl (by exact idx0) rfl rfl) rfl rfl rfl ?_
      refine WL_is (X_lss_f rfl rfl rfl (by omega)) rfl rfl rfl ?_
      refine WL_is (X_pick_f rfl rfl rfl) rfl rfl rfl ?_
      (repeat (first | refine WL_nil ?_ | refine Then_normal ?_ | refine W_seq ?_ | refine W_skip ?_ | refine W_false rfl ?_))
      skip
      refine W_region rfl ?_
      (refine WL_alloc rfl rfl rfl rfl rfl rfl ?_; intro b_)
      (repeat (first | refine WL_nil ?_ | refine Then_normal ?_ | refine W_seq ?_))
      generalize b_ = b8
      skip
      refine W_region rfl ?_
      refine WL_is (X_loadA rfl rfl (by exact idx3) rfl rfl rfl) rfl rfl rfl ?_
      refine WL_call rfl rfl rfl Try.func30 rfl rfl rfl rfl hs ?_
      rintro _ _ H1 L1 ⟨rfl, lb, rfl, hit⟩
      simp only [List.nil_append]
      refine WL_upd (Upd.nilrow (e := 59) (sz := 4)) ?_
      (repeat (first | refine WL_nil ?_ | refine Then_normal ?_ | refine W_block ?_))
      refine W_rangeF (X := LX2) (N := (slotsL d).length) (args := argS d) (RC := []) (R2 := [blk b3 _ 25]) (fun x => [rowL encE x.v 59 4 x.L, blk b8 [x.v] 39, blk b5 [.int .i64 (mn : Int)] 3, blk b4 [.int .i64 f] 3]) (fun i x => x.L = behL f (neL ((slotsL d).take i)) ∧ x.L.length ≤ mn) (fun _ c x => c = .exit 0 ∧ x.L = listL (allL d) f (mn : Int)) ⟨.slice none 0 0, []⟩ rfl Try.func41 rfl (by decide) (fun i => argS_len d i) rfl (fun _ => rfl) (.refl _) ⟨rfl, Nat.zero_le _⟩ (fun h' hl => hit h' hl) ?_ ?_ ?_
      · rintro lp j ⟨xv, L⟩ H4 hj L4 ⟨hL, hlm⟩
        dsimp only at hL hlm ⊢
        have hlj : L.length ≤ j := by
          rw [hL]; refine Nat.le_trans (behL_len ..) ?_
          rw [List.length_take]; omega
        have hsu := neL_succ hj
        have hsub := neL_take_sub (slotsL d) j
        have hok := spot_ok (List.getElem_mem hj)
        rw [argS_get hj]
        generalize (slotsL d)[j] = q at hsu hok ⊢
        obtain ⟨p, x⟩ := q
        dsimp only at hsu hok ⊢
        rw [hsu, behL_app, ← hL]
        unfold spoV sloV
        simp only [putL]
        refine W_updE (UpdE.shapeL 0 rfl) ?_
        rintro _ H5 - ⟨rfl, rfl, xa, xc, rfl⟩
        (repeat (first | refine W_seq ?_))
        refine W_region rfl ?_
        (refine WL_alloc rfl rfl rfl rfl rfl rfl ?_; intro b_)
        refine WL_store rfl rfl rfl (by exact idx0) rfl rfl rfl rfl rfl rfl rfl rfl rfl ?_
        (repeat (first | refine WL_nil ?_ | refine Then_normal ?_))
        skip
        refine W_region rfl ?_
        (refine WL_alloc rfl rfl rfl rfl rfl rfl ?_; intro b_)
        refine WL_store rfl rfl rfl (by exact idx0) rfl rfl rfl rfl rfl rfl rfl rfl rfl ?_
        (repeat (first | refine WL_nil ?_ | refine Then_normal ?_ | refine W_seq ?_ | refine W_block ?_))
        have hcf := cookie_fn H5 p ⟨hok.1.1, by omega⟩ ⟨hok.2.1.1, by omega⟩ ⟨hok.2.2.1, by omega⟩
        unfold spoV at hcf
        by_cases hlm2 : (L.length : Int) = (mn : Int)
        · skip
          refine W_region rfl ?_
          refine WL_is (X_load1 rfl rfl (by exact idx3) rfl rfl) rfl rfl rfl ?_
          refine WL_is (X_len rfl rfl rfl) rfl rfl rfl ?_
          refine WL_is (X_load1 rfl rfl (by exact idx4) rfl rfl) rfl rfl rfl ?_
          refine WL_is (X_eql_t rfl rfl rfl (by omega)) rfl rfl rfl ?_
          (repeat (first | refine WL_nil ?_ | refine Then_normal ?_ | refine W_exit ?_ | refine Then_exit ?_ | refine inBlk_out rfl ?_ | refine W_true rfl ?_))
          refine ⟨⟨_, L⟩, .skip _ (.skip _ (SubR.refl _)), rfl, ?_⟩
          dsimp only
          unfold listL
          have hpre : L <+: behL f (allL d) := by
            rw [hL]
            obtain ⟨r, hr⟩ := List.take_prefix j (slotsL d)
            have : behL f (allL d) = behL f (neL ((slotsL d).take j)) ++ behL f (neL r) := by
              rw [← behL_app]; unfold allL neL; rw [← List.filter_append, hr]
            rw [this]; exact List.prefix_append ..
          rw [List.prefix_iff_eq_take] at hpre
          rw [hpre, List.length_take] at hlm2
          rw [hpre]
          congr 1
          have := hpre ▸ hlm2
          simp only [Int.toNat_natCast]
          omega
        · have hL1 : ¬ (L.length : Int) = (mn : Int) := hlm2
          skip
          refine W_region rfl ?_
          refine WL_is (X_load1 rfl rfl (by exact idx3) rfl rfl) rfl rfl rfl ?_
          refine WL_is (X_len rfl rfl rfl) rfl rfl rfl ?_
          refine WL_is (X_load1 rfl rfl (by exact idx4) rfl rfl) rfl rfl rfl ?_
          refine WL_is (X_eql_f rfl rfl rfl (by omega)) rfl rfl rfl ?_
          (repeat (first | refine WL_nil ?_ | refine Then_normal ?_ | refine W_seq ?_ | refine W_skip ?_ | refine W_false rfl ?_))
          skip
          refine W_region rfl ?_
          refine WL_is (X_loadA rfl rfl (by exact idx1) rfl rfl rfl) rfl rfl rfl ?_
          refine WL_is (X_callv rfl rfl rfl Try.func34 rfl (by assumption)) rfl rfl rfl ?_
          refine WL_is (X_assign rfl rfl) rfl rfl rfl ?_
          (repeat (first | refine WL_nil ?_ | refine Then_normal ?_ | refine W_seq ?_))
          skip
          refine W_region rfl ?_
          refine WL_is (X_move rfl rfl) rfl rfl rfl ?_
          refine WL_is (X_load1 rfl rfl (by exact idx5) rfl rfl) rfl rfl rfl ?_
          have hLm : L.length + 1 ≤ mn := by omega
          by_cases hgt : cookS p > f
          · refine WL_is (X_gtr_t rfl rfl rfl (by omega)) rfl rfl rfl ?_
            refine WL_is (X_move rfl rfl) rfl rfl rfl ?_
            refine WL_is (X_loadA rfl rfl (by exact idx0) rfl rfl rfl) rfl rfl rfl ?_
            refine WL_is (X_build rfl rfl rfl) rfl rfl rfl ?_
            by_cases hx : x = slo0
            · refine WL_is (X_neA 8 heldOk guardOk rfl rfl rfl rfl rfl rfl (eqSlo_t hx)) rfl rfl rfl ?_
              refine WL_is (X_pick_t rfl rfl rfl) rfl rfl rfl ?_
              (repeat (first | refine WL_nil ?_ | refine Then_normal ?_ | refine W_skip ?_ | refine inBlk_normal ?_ | refine W_false rfl ?_))
              refine ⟨⟨_, L⟩, .skip _ (.skip _ (SubR.refl _)), ?_, hlm⟩
              rw [if_pos hx]; simp [behL]
            · refine WL_is (X_neA 8 heldOk guardOk rfl rfl rfl rfl rfl rfl (eqSlo_f hx)) rfl rfl rfl ?_
              refine WL_is (X_pick_t rfl rfl rfl) rfl rfl rfl ?_
              (repeat (first | refine WL_nil ?_ | refine Then_normal ?_ | refine W_true rfl ?_))
              skip
              refine W_region rfl ?_
              refine WL_is (X_load1 rfl rfl (by exact idx3) rfl rfl) rfl rfl rfl ?_
              refine WL_is (X_move rfl rfl) rfl rfl rfl ?_
              refine WL_is (X_loadA rfl rfl (by exact idx0) rfl rfl rfl) rfl rfl rfl ?_
              refine WL_is (X_build rfl rfl rfl) rfl rfl rfl ?_
              refine WL_buildSl (enc := encE) [(p, x)] (lenE _) rfl rfl rfl rfl rfl rfl rfl rfl rfl rfl rfl rfl rfl rfl rfl ?_
              intro u H6 M6 hu
              refine WL_append (enc := encE) (L := L) (L' := [(p, x)]) (i := 2) rfl rfl rfl elemE rfl rfl (Src.sl hu) (flatE _) (by simp only [List.length_singleton]; omega) (by simp only [List.length_singleton]; omega) rfl rfl rfl ?_
              intro v3
              simp only [List.set_cons_zero, List.set_cons_succ]
              refine WL_updE (UpdE.shapeL 2 rfl) ?_
              rintro _ _ - ⟨rfl, rfl, xa2, xc2, rfl⟩
              refine WL_store rfl rfl rfl (by exact idx3) rfl rfl rfl rfl rfl rfl rfl rfl rfl ?_
              (repeat (first | refine WL_nil ?_ | refine inBlk_normal ?_))
              refine ⟨⟨_, L ++ [(p, x)]⟩, .skip _ (.skip _ (SubR.refl _)), ?_, by simpa using hLm⟩
              rw [if_neg hx]
              have : f < cookS p := hgt
              simp [behL, this]
          · refine WL_is (X_gtr_f rfl rfl rfl (by omega)) rfl rfl rfl ?_
            refine WL_is (X_move rfl rfl) rfl rfl rfl ?_
            refine WL_off rfl rfl rfl ?_
            refine WL_off rfl rfl rfl ?_
            refine WL_off rfl rfl rfl ?_
            refine WL_is (X_pick_f rfl rfl rfl) rfl rfl rfl ?_
            (repeat (first | refine WL_nil ?_ | refine Then_normal ?_ | refine W_skip ?_ | refine inBlk_normal ?_ | refine W_false rfl ?_))
            refine ⟨⟨_, L⟩, .skip _ (.skip _ (SubR.refl _)), ?_, hlm⟩
            have : ¬ f < cookS p := hgt
            split <;> simp [behL, this]
      · rintro bb ⟨xv, L⟩ H4 L4 ⟨hL, hlm⟩
        dsimp only at hL hlm ⊢
        rw [List.take_length] at hL
        have hLr : L = listL (allL d) f (mn : Int) := by
          have : behL f (allL d) = L := hL.symm
          rw [listL, this, List.take_of_length_le]; simpa using hlm
        rw [← hLr]
        simp only [List.cons_append, List.nil_append]
        (repeat (first | refine Then_normal ?_ | refine W_seq ?_ | refine inBlk_normal ?_))
        skip
        refine W_region rfl ?_
        refine WL_is (X_load1 rfl rfl (by exact idx1) rfl rfl) rfl rfl rfl ?_
        refine WL_is (X_assign rfl rfl) rfl rfl rfl ?_
        refine WL_is (X_assign rfl rfl) rfl rfl rfl ?_
        (repeat (first | refine WL_nil ?_ | refine Then_normal ?_ | refine W_ret ?_))
        refine BodyM_1 (SubR.of_perm (perm_front 4 rfl)) ?_
        refine Body_vals (.cons (.tmp rfl) (.cons (.tmp rfl) .nil)) rfl ?_
        exact (UpdE.row (enc := encE) 0 rfl (lenE _)).then fun R' h' hl ⟨_, s⟩ => UpdE.of (Upd.sub (SubR.none _)) ⟨⟨_, rfl, s⟩, rfl⟩
      · rintro bb i c ⟨xv, L⟩ H4 L4 hi ⟨rfl, hL⟩
        dsimp only at hL
        rw [← hL]
        simp only [QJ, List.cons_append, List.nil_append]
        (repeat (first | refine Then_normal ?_ | refine W_seq ?_ | refine inBlk_here ?_))
        skip
        refine W_region rfl ?_
        refine WL_is (X_load1 rfl rfl (by exact idx1) rfl rfl) rfl rfl rfl ?_
        refine WL_is (X_assign rfl rfl) rfl rfl rfl ?_
        refine WL_is (X_assign rfl rfl) rfl rfl rfl ?_
        (repeat (first | refine WL_nil ?_ | refine Then_normal ?_ | refine W_ret ?_))
        refine BodyM_1 (SubR.of_perm (perm_front 4 rfl)) ?_
        refine Body_vals (.cons (.tmp rfl) (.cons (.tmp rfl) .nil)) rfl ?_
        exact (UpdE.row (enc := encE) 0 rfl (lenE _)).then fun R' h' hl ⟨_, s⟩ => UpdE.of (Upd.sub (SubR.none _)) ⟨⟨_, rfl, s⟩, rfl⟩
end Go.Proofs.Ytgpanbmjmpondaa
