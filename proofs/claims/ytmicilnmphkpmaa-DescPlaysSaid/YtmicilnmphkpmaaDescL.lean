/- Open files: the law on scripts. -/
import Derived.Test.YtmicilnmphkpmaaDescJ
import Derived.Test.YtmicilnmphkpmaaEngD
namespace Go.Proofs.Ytmicilnmphkpmaa
open Go Go.Par PH
def s00 : DS := ⟨[], [0, 0, 0, 0, 0, 0, 0, 0]⟩
theorem Upd.ref0 {R : List SL} {h : PH} {b : Nat} : Go.Par.Upd (blk b [.slice none 0 0, .int .i64 0, .int .i64 0, .int .i64 0, .int .i64 0, .int .i64 0, .int .i64 0, .int .i64 0, .int .i64 0] 30 :: R) h (refR b s00 :: R) h := Upd.wkn fun g hg => by
  obtain ⟨a, c, e, hd, ha, hc⟩ := hg
  exact ⟨a, c, e, hd, ⟨.slice none 0 0, a, none_, (un_none_right _).symm, dj_none_right _, ha, none_, none_, (un_none_right _).symm, dj_none_right _, ⟨rfl, .inl ⟨rfl, rfl, rfl⟩⟩, rfl⟩, hc⟩
def StepD.do (x : StepD) (s : DS) : DS := if x.d = 0 then s.open x.f else if x.d = 2 then s.move x.fd x.off else if x.d = 3 then s.dup x.fd else if x.d = 4 then s.close x.fd else s
theorem StepD.do_ok {x : StepD} {s : DS} (hs : s.Ok) : (x.do s).Ok := by
  unfold StepD.do
  split
  · exact hs.open _
  · split
    · exact hs.move _ _
    · split
      · exact hs.dup _
      · split
        · exact hs.close _
        · exact hs
theorem StepD.do_len {x : StepD} {s : DS} : (x.do s).all.length ≤ s.all.length + 1 := by
  unfold StepD.do DS.open DS.move DS.dup DS.close
  repeat' split
  all_goals simp
structure PX where
  k : Nat
  s : DS
  h : PH
attribute [local irreducible] W WL Does Exec Body Then inBlk RG WR row obj pblk
set_option maxHeartbeats 4000000 in
theorem plays_law (h : PH) (l : List StepD) (v : Value) (hv : Sl encS 9 h v l) : Does Try.prog 3 [v] [] h (Ret fun r _ _ => r = .bool true) := by
  have al := alive_fn h
  obtain ⟨a, cap, rfl⟩ := hv.shape
  refine Does_of_W Try.func3 rfl (n := 200) rfl rfl (by simp only [argE] <;> rfl) ?_
  by_cases hbig : 300 < l.length
  · (repeat (first | refine W_seq ?_))
    skip
    refine W_region rfl ?_
    refine WL_is (X_assign rfl rfl) rfl rfl rfl ?_
    (repeat (first | refine WL_nil ?_ | refine Then_normal ?_ | refine W_seq ?_))
    skip
    refine W_region rfl ?_
    refine WL_is (X_move rfl rfl) rfl rfl rfl ?_
    refine WL_is (X_len_sl rfl rfl rfl (by assumption)) rfl rfl rfl ?_
    refine WL_is (X_gtr_t rfl rfl rfl (by omega)) rfl rfl rfl ?_
    (repeat (first | refine WL_nil ?_ | refine Then_normal ?_ | refine W_seq ?_ | refine W_true rfl ?_))
    skip
    refine W_region rfl ?_
    refine WL_is (X_callv rfl rfl rfl Try.func7 rfl (by assumption)) rfl rfl rfl ?_
    refine WL_is (X_assign rfl rfl) rfl rfl rfl ?_
    (repeat (first | refine WL_nil ?_ | refine Then_normal ?_ | refine W_ret ?_ | refine Then_ret ?_))
    refine Body_end rfl rfl rfl (SubR.none _) ?_
    rfl
  · (repeat (first | refine W_seq ?_))
    skip
    refine W_region rfl ?_
    refine WL_is (X_assign rfl rfl) rfl rfl rfl ?_
    (repeat (first | refine WL_nil ?_ | refine Then_normal ?_ | refine W_seq ?_))
    skip
    refine W_region rfl ?_
    refine WL_is (X_move rfl rfl) rfl rfl rfl ?_
    refine WL_is (X_len_sl rfl rfl rfl (by assumption)) rfl rfl rfl ?_
    refine WL_is (X_gtr_f rfl rfl rfl (by omega)) rfl rfl rfl ?_
    (repeat (first | refine WL_nil ?_ | refine Then_normal ?_ | refine W_seq ?_ | refine W_skip ?_ | refine W_false rfl ?_))
    skip
    refine W_region rfl ?_
    refine WL_call rfl rfl rfl Try.func8 rfl rfl rfl rfl (new_fn h) ?_
    rintro r _ h1 hl1 ⟨tb, rfl, rfl⟩
    simp only [List.cons_append, List.nil_append]
    refine WL_is (X_assign rfl rfl) rfl rfl rfl ?_
    (repeat (first | refine WL_nil ?_ | refine Then_normal ?_ | refine W_seq ?_))
    skip
    refine W_region rfl ?_
    refine WL_is (X_build rfl rfl rfl) rfl rfl rfl ?_
    (refine WL_box rfl rfl rfl rfl rfl rfl ?_; intro b_)
    refine WL_is (X_assign rfl rfl) rfl rfl rfl ?_
    (repeat (first | refine WL_nil ?_ | refine Then_normal ?_ | refine W_seq ?_))
    skip
    refine W_region rfl ?_
    refine WL_is (X_move rfl rfl) rfl rfl rfl ?_
    refine WL_is (X_eqPn_f rfl rfl rfl rfl) rfl rfl rfl ?_
    (repeat (first | refine WL_nil ?_ | refine Then_normal ?_ | refine W_seq ?_ | refine W_skip ?_ | refine W_false rfl ?_))
    generalize b_ = rb
    refine W_upd Upd.ref0 ?_
    skip
    refine W_region rfl ?_
    refine WL_is (X_assign rfl rfl) rfl rfl rfl ?_
    (repeat (first | refine WL_nil ?_ | refine Then_normal ?_ | refine W_block ?_))
    have hv1 := hv.mono hl1
    refine W_loop (X := PX) (L := fun x => ⟨[(5, .int .i64 (x.k : Int)), (0, .slice a l.length cap), (3, .pointer (some ⟨tb, 0, none⟩)), (4, .pointer (some ⟨rb, 0, none⟩))], [], [refR rb x.s, tabR tb x.s], x.h⟩)
      (p := fun x => x.k ≤ l.length ∧ x.s.Ok ∧ x.s.all.length ≤ x.k ∧ le h1 x.h) (μ := fun x => l.length - x.k) ⟨0, s00, h1⟩ ⟨(by repeat (first | exact SubE_nil | refine SubE_cons rfl ?_)), rfl, SubR.refl _, rfl⟩ ⟨Nat.zero_le _, ⟨rfl, (by decide : ∀ k ∈ s00.fds, k ≤ s00.all.length)⟩, Nat.le_refl _, le.refl _⟩ ?_
    rintro ⟨k, s, h2⟩ ⟨hk, hs, hn, hl2⟩
    dsimp only at hk hs hn hl2 ⊢
    have hv2 := hv1.mono hl2
    by_cases hlt : k < l.length
    · (repeat (first | refine W_seq ?_))
      refine W_region rfl ?_
      refine WL_is (X_move rfl rfl) rfl rfl rfl ?_
      refine WL_is (X_move rfl rfl) rfl rfl rfl ?_
      refine WL_is (X_len_sl rfl rfl rfl (by assumption)) rfl rfl rfl ?_
      refine WL_is (X_lss_t rfl rfl rfl (by omega)) rfl rfl rfl ?_
      (repeat (first | refine WL_nil ?_ | refine Then_normal ?_ | refine W_seq ?_ | refine W_skip ?_ | refine W_block ?_ | refine W_true rfl ?_))
      skip
      refine W_region rfl ?_
      refine WL_is (X_move rfl rfl) rfl rfl rfl ?_
      refine WL_is (X_move rfl rfl) rfl rfl rfl ?_
      (refine WL_index_slN rfl rfl rfl rfl rfl (by assumption) (by omega) rfl rfl rfl ?_; intro p_ hp_)
      refine WL_is (X_loadA_at rfl rfl (by assumption) rfl rfl rfl) rfl rfl rfl ?_
      (refine WL_alloc rfl rfl rfl rfl rfl rfl ?_; intro b_)
      refine WL_store rfl rfl rfl (by exact idx0) rfl rfl rfl rfl rfl rfl rfl rfl rfl ?_
      (repeat (first | refine WL_nil ?_ | refine Then_normal ?_ | refine W_seq ?_))
      skip
      refine W_region rfl ?_
      refine WL_is (X_fieldAddr rfl rfl rfl (by simp only [Nat.zero_add] <;> rfl)) rfl rfl rfl ?_
      refine WL_is (X_load1 rfl rfl (by exact idx0) rfl rfl) rfl rfl rfl ?_
      (repeat (first | refine WL_nil ?_ | refine Then_normal ?_))
      refine W_cutT (X := PX) (L := fun x => ⟨[(6, .pointer (some ⟨b_, 0, none⟩)), (5, .int .i64 (k : Int)), (0, .slice a l.length cap), (3, .pointer (some ⟨tb, 0, none⟩)), (4, .pointer (some ⟨rb, 0, none⟩))], [], [refR rb x.s, tabR tb x.s, blk b_ (encS l[k]) 35], x.h⟩)
        (fun x => x.s = l[k].do s ∧ le h2 x.h) ?_ ?_
      · (repeat (first | refine W_seq ?_ | refine W_block ?_))
        have hnb : s.all.length ≤ 1000000 := by omega
        unfold StepD.do
        by_cases d0 : l[k].d = 0
        · simp only [if_pos d0]
          have c1 := open_fn h2 tb s l[k].f hs
          skip
          refine W_region rfl ?_
          refine WL_is (X_eql_t rfl rfl rfl (by omega)) rfl rfl rfl ?_
          refine WL_is (X_assign rfl rfl) rfl rfl rfl ?_
          (repeat (first | refine WL_nil ?_ | refine Then_normal ?_ | refine W_seq ?_ | refine W_true rfl ?_))
          skip
          refine W_region rfl ?_
          refine WL_is (X_move rfl rfl) rfl rfl rfl ?_
          refine WL_is (X_fieldAddr rfl rfl rfl (by simp only [Nat.zero_add] <;> rfl)) rfl rfl rfl ?_
          refine WL_is (X_loadA rfl rfl (by exact idx0) rfl rfl rfl) rfl rfl rfl ?_
          refine WL_callR [_] _ rfl rfl rfl Try.func9 rfl rfl rfl rfl (perm_front 2 rfl) (c1) ?_
          rintro _ _ h3 hl3 ⟨rfl, rfl⟩
          simp only [List.cons_append, List.nil_append, List.eraseIdx_cons_succ, List.eraseIdx_cons_zero]
          have c2 := openR_fn h3 rb s l[k].f hs hnb
          refine WL_is (X_move rfl rfl) rfl rfl rfl ?_
          refine WL_is (X_extract rfl rfl rfl) rfl rfl rfl ?_
          refine WL_is (X_extract rfl rfl rfl) rfl rfl rfl ?_
          refine WL_is (X_assign rfl rfl) rfl rfl rfl ?_
          refine WL_is (X_assign rfl rfl) rfl rfl rfl ?_
          (repeat (first | refine WL_nil ?_ | refine Then_normal ?_ | refine W_seq ?_))
          skip
          refine W_region rfl ?_
          refine WL_is (X_move rfl rfl) rfl rfl rfl ?_
          refine WL_is (X_fieldAddr rfl rfl rfl (by simp only [Nat.zero_add] <;> rfl)) rfl rfl rfl ?_
          refine WL_is (X_loadA rfl rfl (by exact idx1) rfl rfl rfl) rfl rfl rfl ?_
          refine WL_callR [_] _ rfl rfl rfl Try.func10 rfl rfl rfl rfl (perm_front 2 rfl) (c2) ?_
          rintro _ _ h4 hl4 ⟨rfl, rfl⟩
          simp only [List.cons_append, List.nil_append, List.eraseIdx_cons_succ, List.eraseIdx_cons_zero]
          refine WL_is (X_move rfl rfl) rfl rfl rfl ?_
          refine WL_is (X_extract rfl rfl rfl) rfl rfl rfl ?_
          refine WL_is (X_extract rfl rfl rfl) rfl rfl rfl ?_
          refine WL_is (X_assign rfl rfl) rfl rfl rfl ?_
          refine WL_is (X_assign rfl rfl) rfl rfl rfl ?_
          (repeat (first | refine WL_nil ?_ | refine Then_normal ?_ | refine W_seq ?_))
          skip
          refine W_region rfl ?_
          refine WL_is (X_move rfl rfl) rfl rfl rfl ?_
          refine WL_is (X_move rfl rfl) rfl rfl rfl ?_
          refine WL_is (X_neq_f rfl rfl rfl (by omega)) rfl rfl rfl ?_
          refine WL_is (X_move rfl rfl) rfl rfl rfl ?_
          refine WL_is (X_move rfl rfl) rfl rfl rfl ?_
          refine WL_is (X_move rfl rfl) rfl rfl rfl ?_
          refine WL_is (X_neq_f rfl rfl rfl (by omega)) rfl rfl rfl ?_
          refine WL_is (X_pick_f rfl rfl rfl) rfl rfl rfl ?_
          (repeat (first | refine WL_nil ?_ | refine Then_normal ?_ | refine W_skip ?_ | refine inBlk_normal ?_ | refine W_false rfl ?_))
          refine ⟨⟨k, _, h4⟩, ⟨(by repeat (first | exact SubE_nil | refine SubE_cons rfl ?_)), rfl, SubR.refl _, rfl⟩, rfl, hl3.trans hl4⟩
        · by_cases d2 : l[k].d = 2
          · simp only [if_neg d0, if_pos d2]
            skip
            refine W_region rfl ?_
            refine WL_is (X_eql_f rfl rfl rfl (by omega)) rfl rfl rfl ?_
            refine WL_is (X_assign rfl rfl) rfl rfl rfl ?_
            (repeat (first | refine WL_nil ?_ | refine Then_normal ?_ | refine W_seq ?_ | refine W_false rfl ?_))
            skip
            refine W_region rfl ?_
            refine WL_is (X_eql_t rfl rfl rfl (by omega)) rfl rfl rfl ?_
            refine WL_is (X_assign rfl rfl) rfl rfl rfl ?_
            (repeat (first | refine WL_nil ?_ | refine Then_normal ?_ | refine W_seq ?_ | refine W_true rfl ?_))
            skip
            refine W_draw 11 _ [] [refR rb s, blk b_ (encS l[k]) 35] rfl rfl rfl (SubE.refl _) rfl ?_
            refine RG_val rfl rfl (fun _ => rfl) (fun _ => X_move rfl rfl) ?_
            refine RG_val rfl rfl (fun _ => rfl) (fun _ => X_fieldAddr rfl rfl rfl (by simp only [Nat.zero_add] <;> rfl)) ?_
            refine RG_val rfl rfl (fun _ => rfl) (fun _ => X_load1 rfl rfl (by exact idx1) rfl rfl) ?_
            refine RG_val rfl rfl (fun _ => rfl) (fun _ => X_fieldAddr rfl rfl rfl (by simp only [Nat.zero_add] <;> rfl)) ?_
            refine RG_val rfl rfl (fun _ => rfl) (fun _ => X_load1 rfl rfl (by exact idx1) rfl rfl) ?_
            refine RG_call (.opq (fun v _ => v = .int .i64 (s.moveE l[k].fd l[k].off)) [tabR tb s] (fun _ => [tabR tb (s.move l[k].fd l[k].off)])) [] _ (fun _ _ _ _ h => h) rfl (fun _ => rfl) (fun _ => rfl) Try.func11 rfl rfl rfl (fun _ => rfl) (.refl _) (fun vs h' hl _ => (move_fn h' tb s _ _ hs).wkn (fun v R' h'' _ h => ⟨h.1, by rw [h.2]; exact SubR.refl _⟩)) ?_
            refine RG_val rfl rfl (fun _ => rfl) (fun _ => X_move rfl rfl) ?_
            refine RG_val rfl rfl (fun _ => rfl) (fun _ => X_fieldAddr rfl rfl rfl (by simp only [Nat.zero_add] <;> rfl)) ?_
            refine RG_val rfl rfl (fun _ => rfl) (fun _ => X_load1 rfl rfl (by exact idx1) rfl rfl) ?_
            refine RG_val rfl rfl (fun _ => rfl) (fun _ => X_fieldAddr rfl rfl rfl (by simp only [Nat.zero_add] <;> rfl)) ?_
            refine RG_val rfl rfl (fun _ => rfl) (fun _ => X_load1 rfl rfl (by exact idx1) rfl rfl) ?_
            refine RG_nil ?_
            refine RG_endC ((perm_front 2 rfl).trans ((List.Perm.swap _ _ _).cons _)) (fun vs => by simp only [endE, List.cons_append, List.nil_append] <;> rfl) (fun vs => by simp only [endR, List.cons_append, List.nil_append, List.append_nil] <;> rfl) (fun vs h' hf => hf) ?_
            rintro vs h3 hl3 hF
            simp only [endF, Nat.zero_add, Nat.reduceAdd] at hF
            obtain ⟨e5, -⟩ := hF
            simp only [Nat.zero_add, Nat.reduceAdd, e5]
            refine WL_callR [_] _ rfl rfl rfl Try.func12 rfl rfl rfl rfl (perm_front 1 rfl) (moveR_fn h3 rb s _ _ hs hnb) ?_
            rintro _ _ h4 hl4 ⟨rfl, rfl⟩
            simp only [List.cons_append, List.nil_append, List.eraseIdx_cons_zero]
            refine WL_is (X_neq_f rfl rfl rfl (by omega)) rfl rfl rfl ?_
            (repeat (first | refine WL_nil ?_ | refine Then_normal ?_ | refine W_skip ?_ | refine inBlk_normal ?_ | refine W_false rfl ?_))
            refine ⟨⟨k, _, h4⟩, ⟨(by repeat (first | exact SubE_nil | refine SubE_cons rfl ?_)), rfl, SubR.refl _, rfl⟩, rfl, hl3.trans hl4⟩
          · by_cases d3 : l[k].d = 3
            · simp only [if_neg d0, if_neg d2, if_pos d3]
              skip
              refine W_region rfl ?_
              refine WL_is (X_eql_f rfl rfl rfl (by omega)) rfl rfl rfl ?_
              refine WL_is (X_assign rfl rfl) rfl rfl rfl ?_
              (repeat (first | refine WL_nil ?_ | refine Then_normal ?_ | refine W_seq ?_ | refine W_false rfl ?_))
              skip
              refine W_region rfl ?_
              refine WL_is (X_eql_f rfl rfl rfl (by omega)) rfl rfl rfl ?_
              refine WL_is (X_assign rfl rfl) rfl rfl rfl ?_
              (repeat (first | refine WL_nil ?_ | refine Then_normal ?_ | refine W_seq ?_ | refine W_false rfl ?_))
              skip
              refine W_region rfl ?_
              refine WL_is (X_eql_t rfl rfl rfl (by omega)) rfl rfl rfl ?_
              refine WL_is (X_assign rfl rfl) rfl rfl rfl ?_
              (repeat (first | refine WL_nil ?_ | refine Then_normal ?_ | refine W_seq ?_ | refine W_true rfl ?_))
              skip
              refine W_region rfl ?_
              refine WL_is (X_move rfl rfl) rfl rfl rfl ?_
              refine WL_is (X_fieldAddr rfl rfl rfl (by simp only [Nat.zero_add] <;> rfl)) rfl rfl rfl ?_
              refine WL_is (X_load1 rfl rfl (by exact idx0) rfl rfl) rfl rfl rfl ?_
              refine WL_callR [_] _ rfl rfl rfl Try.func13 rfl rfl rfl rfl (perm_front 2 rfl) (dup_fn h2 tb s _ hs) ?_
              rintro _ _ h3 hl3 ⟨rfl, rfl⟩
              simp only [List.cons_append, List.nil_append, List.eraseIdx_cons_succ, List.eraseIdx_cons_zero]
              refine WL_is (X_move rfl rfl) rfl rfl rfl ?_
              refine WL_is (X_extract rfl rfl rfl) rfl rfl rfl ?_
              refine WL_is (X_extract rfl rfl rfl) rfl rfl rfl ?_
              refine WL_is (X_assign rfl rfl) rfl rfl rfl ?_
              refine WL_is (X_assign rfl rfl) rfl rfl rfl ?_
              (repeat (first | refine WL_nil ?_ | refine Then_normal ?_ | refine W_seq ?_))
              skip
              refine W_region rfl ?_
              refine WL_is (X_move rfl rfl) rfl rfl rfl ?_
              refine WL_is (X_fieldAddr rfl rfl rfl (by simp only [Nat.zero_add] <;> rfl)) rfl rfl rfl ?_
              refine WL_is (X_load1 rfl rfl (by exact idx1) rfl rfl) rfl rfl rfl ?_
              refine WL_callR [_] _ rfl rfl rfl Try.func14 rfl rfl rfl rfl (perm_front 2 rfl) (dupR_fn h3 rb s _ hs) ?_
              rintro _ _ h4 hl4 ⟨rfl, rfl⟩
              simp only [List.cons_append, List.nil_append, List.eraseIdx_cons_succ, List.eraseIdx_cons_zero]
              refine WL_is (X_move rfl rfl) rfl rfl rfl ?_
              refine WL_is (X_extract rfl rfl rfl) rfl rfl rfl ?_
              refine WL_is (X_extract rfl rfl rfl) rfl rfl rfl ?_
              refine WL_is (X_assign rfl rfl) rfl rfl rfl ?_
              refine WL_is (X_assign rfl rfl) rfl rfl rfl ?_
              (repeat (first | refine WL_nil ?_ | refine Then_normal ?_ | refine W_seq ?_))
              skip
              refine W_region rfl ?_
              refine WL_is (X_move rfl rfl) rfl rfl rfl ?_
              refine WL_is (X_move rfl rfl) rfl rfl rfl ?_
              refine WL_is (X_neq_f rfl rfl rfl (by omega)) rfl rfl rfl ?_
              refine WL_is (X_move rfl rfl) rfl rfl rfl ?_
              refine WL_is (X_move rfl rfl) rfl rfl rfl ?_
              refine WL_is (X_move rfl rfl) rfl rfl rfl ?_
              refine WL_is (X_neq_f rfl rfl rfl (by omega)) rfl rfl rfl ?_
              refine WL_is (X_pick_f rfl rfl rfl) rfl rfl rfl ?_
              (repeat (first | refine WL_nil ?_ | refine Then_normal ?_ | refine W_skip ?_ | refine inBlk_normal ?_ | refine W_false rfl ?_))
              refine ⟨⟨k, _, h4⟩, ⟨(by repeat (first | exact SubE_nil | refine SubE_cons rfl ?_)), rfl, SubR.refl _, rfl⟩, rfl, hl3.trans hl4⟩
            · by_cases d4 : l[k].d = 4
              · simp only [if_neg d0, if_neg d2, if_neg d3, if_pos d4]
                skip
                refine W_region rfl ?_
                refine WL_is (X_eql_f rfl rfl rfl (by omega)) rfl rfl rfl ?_
                refine WL_is (X_assign rfl rfl) rfl rfl rfl ?_
                (repeat (first | refine WL_nil ?_ | refine Then_normal ?_ | refine W_seq ?_ | refine W_false rfl ?_))
                skip
                refine W_region rfl ?_
                refine WL_is (X_eql_f rfl rfl rfl (by omega)) rfl rfl rfl ?_
                refine WL_is (X_assign rfl rfl) rfl rfl rfl ?_
                (repeat (first | refine WL_nil ?_ | refine Then_normal ?_ | refine W_seq ?_ | refine W_false rfl ?_))
                skip
                refine W_region rfl ?_
                refine WL_is (X_eql_f rfl rfl rfl (by omega)) rfl rfl rfl ?_
                refine WL_is (X_assign rfl rfl) rfl rfl rfl ?_
                (repeat (first | refine WL_nil ?_ | refine Then_normal ?_ | refine W_seq ?_ | refine W_false rfl ?_))
                skip
                refine W_region rfl ?_
                refine WL_is (X_eql_t rfl rfl rfl (by omega)) rfl rfl rfl ?_
                refine WL_is (X_assign rfl rfl) rfl rfl rfl ?_
                (repeat (first | refine WL_nil ?_ | refine Then_normal ?_ | refine W_seq ?_ | refine W_true rfl ?_))
                skip
                refine W_region rfl ?_
                refine WL_is (X_move rfl rfl) rfl rfl rfl ?_
                refine WL_is (X_fieldAddr rfl rfl rfl (by simp only [Nat.zero_add] <;> rfl)) rfl rfl rfl ?_
                refine WL_is (X_load1 rfl rfl (by exact idx0) rfl rfl) rfl rfl rfl ?_
                refine WL_callR [_] _ rfl rfl rfl Try.func15 rfl rfl rfl rfl (perm_front 2 rfl) (close_fn h2 tb s _ hs) ?_
                rintro _ _ h3 hl3 ⟨rfl, rfl⟩
                simp only [List.cons_append, List.nil_append, List.eraseIdx_cons_succ, List.eraseIdx_cons_zero]
                simp only [fileV]
                refine WL_is (X_move rfl rfl) rfl rfl rfl ?_
                refine WL_is (X_extract rfl rfl rfl) rfl rfl rfl ?_
                refine WL_is (X_extract rfl rfl rfl) rfl rfl rfl ?_
                refine WL_is (X_extract rfl rfl rfl) rfl rfl rfl ?_
                (refine WL_alloc rfl rfl rfl rfl rfl rfl ?_; intro b_)
                refine WL_store rfl rfl rfl (by exact idx0) rfl rfl rfl rfl rfl rfl rfl rfl rfl ?_
                refine WL_is (X_assign rfl rfl) rfl rfl rfl ?_
                refine WL_is (X_assign rfl rfl) rfl rfl rfl ?_
                (repeat (first | refine WL_nil ?_ | refine Then_normal ?_ | refine W_seq ?_))
                skip
                refine W_region rfl ?_
                refine WL_is (X_move rfl rfl) rfl rfl rfl ?_
                refine WL_is (X_fieldAddr rfl rfl rfl (by simp only [Nat.zero_add] <;> rfl)) rfl rfl rfl ?_
                refine WL_is (X_load1 rfl rfl (by exact idx2) rfl rfl) rfl rfl rfl ?_
                refine WL_callR [_] _ rfl rfl rfl Try.func16 rfl rfl rfl rfl (perm_front 3 rfl) (closeR_fn h3 rb s _ hs hnb) ?_
                rintro _ _ h4 hl4 ⟨rfl, rfl⟩
                simp only [List.cons_append, List.nil_append, List.eraseIdx_cons_succ, List.eraseIdx_cons_zero]
                simp only [fileV]
                refine WL_is (X_move rfl rfl) rfl rfl rfl ?_
                refine WL_is (X_extract rfl rfl rfl) rfl rfl rfl ?_
                refine WL_is (X_extract rfl rfl rfl) rfl rfl rfl ?_
                refine WL_is (X_extract rfl rfl rfl) rfl rfl rfl ?_
                (refine WL_alloc rfl rfl rfl rfl rfl rfl ?_; intro b_)
                refine WL_store rfl rfl rfl (by exact idx0) rfl rfl rfl rfl rfl rfl rfl rfl rfl ?_
                refine WL_is (X_assign rfl rfl) rfl rfl rfl ?_
                refine WL_is (X_assign rfl rfl) rfl rfl rfl ?_
                (repeat (first | refine WL_nil ?_ | refine Then_normal ?_ | refine W_seq ?_))
                skip
                refine W_region rfl ?_
                refine WL_is (X_loadA rfl rfl (by exact idx2) rfl rfl rfl) rfl rfl rfl ?_
                refine WL_is (X_loadA rfl rfl (by exact idx0) rfl rfl rfl) rfl rfl rfl ?_
                refine WL_is (X_neA 8 heldOk guardOk rfl rfl rfl rfl rfl rfl rfl) rfl rfl rfl ?_
                simp only [beq_self_eq_true, Bool.and_self, Bool.not_true]
                refine WL_is (X_move rfl rfl) rfl rfl rfl ?_
                refine WL_is (X_move rfl rfl) rfl rfl rfl ?_
                refine WL_is (X_move rfl rfl) rfl rfl rfl ?_
                refine WL_is (X_neB rfl rfl rfl rfl) rfl rfl rfl ?_
                refine WL_is (X_pick_f rfl rfl rfl) rfl rfl rfl ?_
                simp only [beq_self_eq_true, Bool.not_true]
                refine WL_is (X_move rfl rfl) rfl rfl rfl ?_
                refine WL_is (X_move rfl rfl) rfl rfl rfl ?_
                refine WL_is (X_move rfl rfl) rfl rfl rfl ?_
                refine WL_is (X_neq_f rfl rfl rfl (by omega)) rfl rfl rfl ?_
                refine WL_is (X_pick_f rfl rfl rfl) rfl rfl rfl ?_
                (repeat (first | refine WL_nil ?_ | refine Then_normal ?_ | refine W_skip ?_ | refine inBlk_normal ?_ | refine W_false rfl ?_))
                refine ⟨⟨k, _, h4⟩, ⟨(by repeat (first | exact SubE_nil | refine SubE_cons rfl ?_)), rfl, SubR.skip _ (SubR.cons _ (SubR.skip _ (SubR.refl _))), rfl⟩, rfl, hl3.trans hl4⟩
              · simp only [if_neg d0, if_neg d2, if_neg d3, if_neg d4]
                skip
                refine W_region rfl ?_
                refine WL_is (X_eql_f rfl rfl rfl (by omega)) rfl rfl rfl ?_
                refine WL_is (X_assign rfl rfl) rfl rfl rfl ?_
                (repeat (first | refine WL_nil ?_ | refine Then_normal ?_ | refine W_seq ?_ | refine W_false rfl ?_))
                skip
                refine W_region rfl ?_
                refine WL_is (X_eql_f rfl rfl rfl (by omega)) rfl rfl rfl ?_
                refine WL_is (X_assign rfl rfl) rfl rfl rfl ?_
                (repeat (first | refine WL_nil ?_ | refine Then_normal ?_ | refine W_seq ?_ | refine W_false rfl ?_))
                skip
                refine W_region rfl ?_
                refine WL_is (X_eql_f rfl rfl rfl (by omega)) rfl rfl rfl ?_
                refine WL_is (X_assign rfl rfl) rfl rfl rfl ?_
                (repeat (first | refine WL_nil ?_ | refine Then_normal ?_ | refine W_seq ?_ | refine W_false rfl ?_))
                skip
                refine W_region rfl ?_
                refine WL_is (X_eql_f rfl rfl rfl (by omega)) rfl rfl rfl ?_
                refine WL_is (X_assign rfl rfl) rfl rfl rfl ?_
                (repeat (first | refine WL_nil ?_ | refine Then_normal ?_ | refine W_skip ?_ | refine inBlk_normal ?_ | refine W_false rfl ?_))
                exact ⟨⟨k, _, h2⟩, ⟨(by repeat (first | exact SubE_nil | refine SubE_cons rfl ?_)), rfl, SubR.of_perm ((List.Perm.swap _ _ _).trans ((List.Perm.swap _ _ _).cons _)), rfl⟩, rfl, le.refl _⟩
      · rintro ⟨k', s', h3⟩ ⟨he, hl3⟩
        dsimp only at he hl3 ⊢
        have hs' : s'.Ok := by rw [he]; exact StepD.do_ok hs
        have hn' : s'.all.length ≤ k + 1 := by rw [he]; have := StepD.do_len (x := l[k]) (s := s); omega
        clear he
        have hnb : s'.all.length ≤ 1000000 := by omega
        (repeat (first | refine W_seq ?_))
        refine W_region rfl ?_
        refine WL_is (X_move rfl rfl) rfl rfl rfl ?_
        refine WL_is (X_fieldAddr rfl rfl rfl (by simp only [Nat.zero_add] <;> rfl)) rfl rfl rfl ?_
        refine WL_is (X_load1 rfl rfl (by exact idx2) rfl rfl) rfl rfl rfl ?_
        refine WL_callR [_] _ rfl rfl rfl Try.func17 rfl rfl rfl rfl (perm_front 1 rfl) (get_fn h3 tb s' _ hs') ?_
        rintro _ _ h4 hl4 ⟨rfl, rfl⟩
        simp only [List.cons_append, List.nil_append, List.eraseIdx_cons_zero]
        simp only [fileV]
        refine WL_is (X_move rfl rfl) rfl rfl rfl ?_
        refine WL_is (X_extract rfl rfl rfl) rfl rfl rfl ?_
        refine WL_is (X_extract rfl rfl rfl) rfl rfl rfl ?_
        (refine WL_alloc rfl rfl rfl rfl rfl rfl ?_; intro b_)
        refine WL_store rfl rfl rfl (by exact idx0) rfl rfl rfl rfl rfl rfl rfl rfl rfl ?_
        refine WL_is (X_assign rfl rfl) rfl rfl rfl ?_
        (repeat (first | refine WL_nil ?_ | refine Then_normal ?_ | refine W_seq ?_))
        skip
        refine W_region rfl ?_
        refine WL_is (X_move rfl rfl) rfl rfl rfl ?_
        refine WL_is (X_fieldAddr rfl rfl rfl (by simp only [Nat.zero_add] <;> rfl)) rfl rfl rfl ?_
        refine WL_is (X_load1 rfl rfl (by exact idx3) rfl rfl) rfl rfl rfl ?_
        refine WL_callR [_] _ rfl rfl rfl Try.func18 rfl rfl rfl rfl (perm_front 2 rfl) (getR_fn h4 rb s' _ hs' hnb) ?_
        rintro _ _ h5 hl5 ⟨rfl, rfl⟩
        simp only [List.cons_append, List.nil_append, List.eraseIdx_cons_succ, List.eraseIdx_cons_zero]
        simp only [fileV]
        refine WL_is (X_move rfl rfl) rfl rfl rfl ?_
        refine WL_is (X_extract rfl rfl rfl) rfl rfl rfl ?_
        refine WL_is (X_extract rfl rfl rfl) rfl rfl rfl ?_
        (refine WL_alloc rfl rfl rfl rfl rfl rfl ?_; intro b_)
        refine WL_store rfl rfl rfl (by exact idx0) rfl rfl rfl rfl rfl rfl rfl rfl rfl ?_
        refine WL_is (X_assign rfl rfl) rfl rfl rfl ?_
        (repeat (first | refine WL_nil ?_ | refine Then_normal ?_ | refine W_seq ?_))
        skip
        refine W_region rfl ?_
        refine WL_is (X_loadA rfl rfl (by exact idx2) rfl rfl rfl) rfl rfl rfl ?_
        refine WL_is (X_loadA rfl rfl (by exact idx0) rfl rfl rfl) rfl rfl rfl ?_
        refine WL_is (X_neA 8 heldOk guardOk rfl rfl rfl rfl rfl rfl rfl) rfl rfl rfl ?_
        simp only [beq_self_eq_true, Bool.and_self, Bool.not_true]
        refine WL_is (X_move rfl rfl) rfl rfl rfl ?_
        refine WL_is (X_move rfl rfl) rfl rfl rfl ?_
        refine WL_is (X_move rfl rfl) rfl rfl rfl ?_
        refine WL_is (X_neq_f rfl rfl rfl (by omega)) rfl rfl rfl ?_
        refine WL_is (X_pick_f rfl rfl rfl) rfl rfl rfl ?_
        refine WL_is (X_move rfl rfl) rfl rfl rfl ?_
        refine WL_is (X_move rfl rfl) rfl rfl rfl ?_
        try refine WL_off rfl rfl rfl ?_
        refine WL_callR [_] _ rfl rfl rfl Try.func20 rfl rfl rfl rfl (perm_front 3 rfl) (list_fn h5 tb s' hs') ?_
        rintro r _ h6 hl6 ⟨hr, rfl⟩
        simp only [List.cons_append, List.nil_append, List.eraseIdx_cons_succ, List.eraseIdx_cons_zero]
        refine WL_is (X_move rfl rfl) rfl rfl rfl ?_
        try refine WL_off rfl rfl rfl ?_
        refine WL_callR [_] _ rfl rfl rfl Try.func21 rfl rfl rfl rfl (perm_front 2 rfl) (listR_fn h6 rb s' hs') ?_
        rintro r2 _ h7 hl7 ⟨hr2, rfl⟩
        simp only [List.cons_append, List.nil_append, List.eraseIdx_cons_succ, List.eraseIdx_cons_zero]
        have hll := lst_le s'.fds 8
        have e1 := same15_fn h7 (lst s'.fds 8) (lst s'.fds 8) _ _ (hr.mono hl7) hr2 (by omega) (by omega)
        rw [decide_eq_true rfl] at e1
        refine WL_is (X_callv rfl rfl rfl Try.func19 rfl (by assumption)) rfl rfl rfl ?_
        refine WL_is (X_not rfl rfl) rfl rfl rfl ?_
        refine WL_is (X_pick_f rfl rfl rfl) rfl rfl rfl ?_
        (repeat (first | refine WL_nil ?_ | refine Then_normal ?_ | refine W_skip ?_ | refine inBlk_normal ?_ | refine W_false rfl ?_))
        skip
        refine W_region rfl ?_
        refine WL_is (X_move rfl rfl) rfl rfl rfl ?_
        refine WL_is (X_addW rfl rfl rfl (by exact wrap_i64_in (by omega) (by omega))) rfl rfl rfl ?_
        refine WL_is (X_assign rfl rfl) rfl rfl rfl ?_
        (repeat (first | refine WL_nil ?_ | refine Then_normal ?_))
        refine ⟨⟨k + 1, s', h7⟩, ⟨(by repeat (first | exact SubE_nil | refine SubE_cons rfl ?_)), rfl, SubR.cons _ (SubR.cons _ (SubR.none _)), rfl⟩, ⟨by dsimp only; omega, hs', hn', ((((hl2.trans hl3).trans hl4).trans hl5).trans hl6).trans hl7⟩, by dsimp only; omega⟩
    · (repeat (first | refine W_seq ?_))
      refine W_region rfl ?_
      refine WL_is (X_move rfl rfl) rfl rfl rfl ?_
      refine WL_is (X_move rfl rfl) rfl rfl rfl ?_
      refine WL_is (X_len_sl rfl rfl rfl (by assumption)) rfl rfl rfl ?_
      refine WL_is (X_lss_f rfl rfl rfl (by omega)) rfl rfl rfl ?_
      (repeat (first | refine WL_nil ?_ | refine Then_normal ?_ | refine W_seq ?_ | refine W_exit ?_ | refine Then_exit ?_ | refine inBlk_here ?_ | refine W_false rfl ?_))
      skip
      refine W_region rfl ?_
      refine WL_is (X_assign rfl rfl) rfl rfl rfl ?_
      (repeat (first | refine WL_nil ?_ | refine Then_normal ?_ | refine W_block ?_))
      have hnb : s.all.length ≤ 1000000 := by omega
      refine W_loop (X := Int × PH) (L := fun x => ⟨[(25, .int .i64 x.1), (3, .pointer (some ⟨tb, 0, none⟩)), (4, .pointer (some ⟨rb, 0, none⟩))], [], [refR rb s, tabR tb s], x.2⟩)
        (p := fun x => -1 ≤ x.1 ∧ x.1 ≤ 9) (μ := fun x => (9 - x.1).toNat) ⟨-1, h2⟩ ⟨(by repeat (first | exact SubE_nil | refine SubE_cons rfl ?_)), rfl, SubR.refl _, rfl⟩ ⟨by dsimp only; omega, by dsimp only; omega⟩ ?_
      rintro ⟨i, h3⟩ ⟨hi1, hi2⟩
      dsimp only at hi1 hi2 ⊢
      by_cases hi : i ≤ 8
      · (repeat (first | refine W_seq ?_))
        refine W_region rfl ?_
        refine WL_is (X_move rfl rfl) rfl rfl rfl ?_
        refine WL_is (X_leq_t rfl rfl rfl (by omega)) rfl rfl rfl ?_
        (repeat (first | refine WL_nil ?_ | refine Then_normal ?_ | refine W_seq ?_ | refine W_skip ?_ | refine W_block ?_ | refine W_true rfl ?_))
        skip
        refine W_region rfl ?_
        refine WL_is (X_move rfl rfl) rfl rfl rfl ?_
        refine WL_is (X_move rfl rfl) rfl rfl rfl ?_
        refine WL_callR [_] _ rfl rfl rfl Try.func17 rfl rfl rfl rfl (perm_front 1 rfl) (get_fn h3 tb s _ hs) ?_
        rintro _ _ h4 hl4 ⟨rfl, rfl⟩
        simp only [List.cons_append, List.nil_append, List.eraseIdx_cons_zero]
        simp only [fileV]
        refine WL_is (X_move rfl rfl) rfl rfl rfl ?_
        refine WL_is (X_extract rfl rfl rfl) rfl rfl rfl ?_
        refine WL_is (X_extract rfl rfl rfl) rfl rfl rfl ?_
        (refine WL_alloc rfl rfl rfl rfl rfl rfl ?_; intro b_)
        refine WL_store rfl rfl rfl (by exact idx0) rfl rfl rfl rfl rfl rfl rfl rfl rfl ?_
        refine WL_is (X_assign rfl rfl) rfl rfl rfl ?_
        (repeat (first | refine WL_nil ?_ | refine Then_normal ?_ | refine W_seq ?_))
        skip
        refine W_region rfl ?_
        refine WL_is (X_move rfl rfl) rfl rfl rfl ?_
        refine WL_is (X_move rfl rfl) rfl rfl rfl ?_
        refine WL_callR [_] _ rfl rfl rfl Try.func18 rfl rfl rfl rfl (perm_front 2 rfl) (getR_fn h4 rb s _ hs hnb) ?_
        rintro _ _ h5 hl5 ⟨rfl, rfl⟩
        simp only [List.cons_append, List.nil_append, List.eraseIdx_cons_succ, List.eraseIdx_cons_zero]
        simp only [fileV]
        refine WL_is (X_move rfl rfl) rfl rfl rfl ?_
        refine WL_is (X_extract rfl rfl rfl) rfl rfl rfl ?_
        refine WL_is (X_extract rfl rfl rfl) rfl rfl rfl ?_
        (refine WL_alloc rfl rfl rfl rfl rfl rfl ?_; intro b_)
        refine WL_store rfl rfl rfl (by exact idx0) rfl rfl rfl rfl rfl rfl rfl rfl rfl ?_
        refine WL_is (X_assign rfl rfl) rfl rfl rfl ?_
        (repeat (first | refine WL_nil ?_ | refine Then_normal ?_ | refine W_seq ?_))
        skip
        refine W_region rfl ?_
        refine WL_is (X_loadA rfl rfl (by exact idx2) rfl rfl rfl) rfl rfl rfl ?_
        refine WL_is (X_loadA rfl rfl (by exact idx0) rfl rfl rfl) rfl rfl rfl ?_
        refine WL_is (X_neA 8 heldOk guardOk rfl rfl rfl rfl rfl rfl rfl) rfl rfl rfl ?_
        simp only [beq_self_eq_true, Bool.and_self, Bool.not_true]
        refine WL_is (X_move rfl rfl) rfl rfl rfl ?_
        refine WL_is (X_move rfl rfl) rfl rfl rfl ?_
        refine WL_is (X_move rfl rfl) rfl rfl rfl ?_
        refine WL_is (X_neq_f rfl rfl rfl (by omega)) rfl rfl rfl ?_
        refine WL_is (X_pick_f rfl rfl rfl) rfl rfl rfl ?_
        (repeat (first | refine WL_nil ?_ | refine Then_normal ?_ | refine W_skip ?_ | refine inBlk_normal ?_ | refine W_false rfl ?_))
        skip
        refine W_region rfl ?_
        refine WL_is (X_move rfl rfl) rfl rfl rfl ?_
        refine WL_is (X_addW rfl rfl rfl (by exact wrap_i64_in (by omega) (by omega))) rfl rfl rfl ?_
        refine WL_is (X_assign rfl rfl) rfl rfl rfl ?_
        (repeat (first | refine WL_nil ?_ | refine Then_normal ?_))
        refine ⟨(i + 1, h5), ⟨(by repeat (first | exact SubE_nil | refine SubE_cons rfl ?_)), rfl, SubR.skip _ (SubR.cons _ (SubR.skip _ (SubR.refl _))), rfl⟩, ⟨by dsimp only; omega, by dsimp only; omega⟩, by dsimp only; omega⟩
      · have al3 := alive_fn h3
        (repeat (first | refine W_seq ?_))
        refine W_region rfl ?_
        refine WL_is (X_move rfl rfl) rfl rfl rfl ?_
        refine WL_is (X_leq_f rfl rfl rfl (by omega)) rfl rfl rfl ?_
        (repeat (first | refine WL_nil ?_ | refine Then_normal ?_ | refine W_seq ?_ | refine W_exit ?_ | refine Then_exit ?_ | refine inBlk_here ?_ | refine W_false rfl ?_))
        skip
        refine W_region rfl ?_
        refine WL_is (X_callv rfl rfl rfl Try.func7 rfl (by assumption)) rfl rfl rfl ?_
        refine WL_is (X_assign rfl rfl) rfl rfl rfl ?_
        (repeat (first | refine WL_nil ?_ | refine Then_normal ?_ | refine W_ret ?_))
        refine Body_end rfl rfl rfl (SubR.none _) ?_
        rfl
end Go.Proofs.Ytmicilnmphkpmaa
