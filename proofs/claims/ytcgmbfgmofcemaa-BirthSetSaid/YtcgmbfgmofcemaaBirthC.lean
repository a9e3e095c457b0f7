/- What is begun: the package's New. -/
import Derived.Test.YtcgmbfgmofcemaaBirthB
namespace Go.Proofs.Ytcgmbfgmofcemaa
open Go Go.Par PH
attribute [local irreducible] W WL Does Exec Body Then inBlk RG WR row obj pblk
attribute [local irreducible] bits
set_option maxHeartbeats 2000000 in
theorem new_fn (h : PH) (c : Cred) (cv : Value) (umask : Int) (p : Attr) (v : Value) (kind mode : Int) (hc : CredV h cv c) (hv : AttrV h v p) (hs : p.small) (hok : p.Ok) (hcl : c.gs.length ≤ 1000) (hu : u16 umask) (hm : u16 mode) :
    Does Try.prog 11 [cv, .int .u16 umask, v, .int .u8 kind, .int .u16 mode] [] h (Ret fun r R' h' => NewA c umask p kind mode r h' ∧ R' = []) := by
  have hv' := hv
  have hc' := hc
  have c1 := credCheck_fn h c cv hc
  have c2 := attrCheck_fn h p v hv hs hok
  have c3 := fun h' (hl : le h h') => access_fn h' p v umask mode (hv.mono hl) hs hu hm
  have hmb := hu
  unfold u16 at hm hmb
  obtain ⟨x, rfl, hx⟩ := hc
  obtain ⟨u, g, u2, g2, xv, rfl, h1, h2, h3, h4, h5⟩ := hv
  obtain ⟨xa, xc, rfl⟩ := hx.shape
  have cD := fun h' (hl : le h h') => copyK_fn (h := h') (v := aclV p.df u2 g2) ⟨u2, g2, rfl, h3.mono hl, h4.mono hl⟩ hs.df
  have cO := fun h' => ofK_fn (h := h') (b := 511) ⟨by decide, by decide⟩
  have c4 := fun h' (hl : le h h') => in_fn h' c _ (bornG c p) (hc'.mono hl) hcl
  simp only [aclV] at cD
  unfold credV at c1 c4 ⊢
  unfold attrV at c2 c3 ⊢
  refine Does_of_W Try.func11 rfl (n := 95) rfl rfl (by simp only [argE, Nat.reduceAdd] <;> rfl) ?_
  by_cases k1 : c.gs.length ≤ 4
  · rw [if_pos k1] at c1
    cases k2 : p.may with
    | true =>
      rw [k2] at c2
      by_cases k3 : 1 ≤ kind
      · by_cases k4 : kind ≤ 3
        · have hB : bornB c p kind = true := by unfold bornB; rw [k2]; simp [k1, k3, k4]
          (repeat (first | refine W_seq ?_))
          refine W_region rfl ?_
          (refine WL_box rfl rfl rfl rfl rfl rfl ?_; intro b_)
          generalize b_ = cb
          (refine WL_box rfl rfl rfl rfl rfl rfl ?_; intro b_)
          generalize b_ = pb
          (refine WL_alloc rfl rfl rfl rfl rfl rfl ?_; intro b_)
          refine WL_is (X_assign rfl rfl) rfl rfl rfl ?_
          (repeat (first | refine WL_nil ?_ | refine Then_normal ?_ | refine W_seq ?_))
          generalize b_ = rb
          skip
          refine W_region rfl ?_
          refine WL_is (X_loadA rfl rfl (by exact idx2) rfl rfl rfl) rfl rfl rfl ?_
          refine WL_is (X_callv rfl rfl rfl Try.func22 rfl (by assumption)) rfl rfl rfl ?_
          refine WL_is (X_neq_f rfl rfl rfl (by omega)) rfl rfl rfl ?_
          refine WL_is (X_move rfl rfl) rfl rfl rfl ?_
          refine WL_is (X_loadA rfl rfl (by exact idx1) rfl rfl rfl) rfl rfl rfl ?_
          refine WL_is (X_callv rfl rfl rfl Try.func23 rfl (by assumption)) rfl rfl rfl ?_
          refine WL_is (X_neq rfl rfl rfl) rfl rfl rfl ?_
          refine WL_is (X_pick_f rfl rfl rfl) rfl rfl rfl ?_
          refine WL_is (X_move rfl rfl) rfl rfl rfl ?_
          refine WL_is (X_move rfl rfl) rfl rfl rfl ?_
          refine WL_is (X_lss_f rfl rfl rfl (by omega)) rfl rfl rfl ?_
          refine WL_is (X_pick_f rfl rfl rfl) rfl rfl rfl ?_
          refine WL_is (X_move rfl rfl) rfl rfl rfl ?_
          refine WL_is (X_move rfl rfl) rfl rfl rfl ?_
          refine WL_is (X_gtr_f rfl rfl rfl (by omega)) rfl rfl rfl ?_
          refine WL_is (X_pick_f rfl rfl rfl) rfl rfl rfl ?_
          (repeat (first | refine WL_nil ?_ | refine Then_normal ?_ | refine W_seq ?_ | refine W_skip ?_ | refine W_false rfl ?_))
          skip
          refine W_region rfl ?_
          refine WL_is (X_fieldAddr rfl rfl rfl (by simp only [Nat.zero_add] <;> rfl)) rfl rfl rfl ?_
          refine WL_is (X_load1 rfl rfl (by exact idx2) rfl rfl) rfl rfl rfl ?_
          refine WL_is (X_fieldAddr rfl rfl rfl (by simp only [Nat.zero_add] <;> rfl)) rfl rfl rfl ?_
          refine WL_is (X_load1 rfl rfl (by exact idx2) rfl rfl) rfl rfl rfl ?_
          refine WL_is (X_build rfl rfl rfl) rfl rfl rfl ?_
          (refine WL_alloc rfl rfl rfl rfl rfl rfl ?_; intro b_)
          refine WL_store rfl rfl rfl (by exact idx0) rfl rfl rfl rfl rfl rfl rfl rfl rfl ?_
          (repeat (first | refine WL_nil ?_ | refine Then_normal ?_ | refine W_seq ?_))
          generalize b_ = xb
          skip
          refine W_region rfl ?_
          refine WL_is (X_fieldAddr rfl rfl rfl (by simp only [Nat.zero_add] <;> rfl)) rfl rfl rfl ?_
          refine WL_is (X_load1 rfl rfl (by exact idx2) rfl rfl) rfl rfl rfl ?_
          refine WL_is (X_and rfl rfl rfl) rfl rfl rfl ?_
          refine WL_is (X_neq rfl rfl rfl) rfl rfl rfl ?_
          (repeat (first | refine WL_nil ?_ | refine Then_normal ?_))
          refine W_cutT (X := Unit) (L := fun _ => ⟨[(5, .pointer (some ⟨cb, 0, none⟩)), (7, .pointer (some ⟨pb, 0, none⟩)), (10, .pointer (some ⟨rb, 0, none⟩)), (12, .pointer (some ⟨xb, 0, none⟩)), (1, .int .u16 umask), (3, .int .u8 kind), (4, .int .u16 mode)], [],
            [blk xb (attrC ⟨0, c.uid, bornG c p, acl0, false, acl0, []⟩ (.slice none 0 0) (.slice none 0 0) (.slice none 0 0) (.slice none 0 0) (.slice none 0 0)) 31, blk rb (attrC attr0 (.slice none 0 0) (.slice none 0 0) (.slice none 0 0) (.slice none 0 0) (.slice none 0 0)) 31, blk pb (attrC p u g u2 g2 xv) 31, blk cb (credC c (.slice xa c.gs.length xc)) 25], h⟩) (fun _ => True) ?_ ?_
          · by_cases hsg : bits .and .u8 p.bits 2 = 0
            · have hG : bornG c p = c.gid := if_pos hsg
              rw [hG, decide_eq_true hsg]
              (repeat (first | refine Then_normal ?_ | refine W_skip ?_ | refine W_false rfl ?_))
              exact ⟨(), ⟨(by repeat (first | exact SubE_nil | refine SubE_cons rfl ?_)), rfl, SubR.refl _, rfl⟩, trivial⟩
            · have hG : bornG c p = p.gid := if_neg hsg
              rw [hG, decide_eq_false hsg]
              (repeat (first | refine W_true rfl ?_))
              skip
              refine W_region rfl ?_
              refine WL_is (X_fieldAddr rfl rfl rfl (by simp only [Nat.zero_add] <;> rfl)) rfl rfl rfl ?_
              refine WL_is (X_load1 rfl rfl (by exact idx2) rfl rfl) rfl rfl rfl ?_
              refine WL_is (X_fieldAddr rfl rfl rfl (by simp only [Nat.zero_add] <;> rfl)) rfl rfl rfl ?_
              refine WL_store rfl rfl rfl (by exact idx0) rfl rfl rfl rfl rfl rfl rfl rfl rfl ?_
              (repeat (first | refine WL_nil ?_ | refine Then_normal ?_))
              exact ⟨(), ⟨(by repeat (first | exact SubE_nil | refine SubE_cons rfl ?_)), rfl, SubR.refl _, rfl⟩, trivial⟩
          rintro - -
          generalize hGG : bornG c p = G at c4
          have fin : ∀ a, born c umask p kind mode = a → ∀ (w : Value) (h' : PH), AttrV h' w a → NewA c umask p kind mode (.tuple #[w, .int .i64 0]) h' := fun a ha w h' hw => NewA.good hB ha hw
          unfold born at fin
          rw [hGG] at fin
          rcases (show kind = 1 ∨ kind = 2 ∨ kind = 3 by omega) with rfl | rfl | rfl
          · have fin := fin _ rfl
            rw [if_neg (by decide), if_pos rfl] at fin
            (repeat (first | refine W_seq ?_))
            refine W_region rfl ?_
            refine WL_is (X_move rfl rfl) rfl rfl rfl ?_
            refine WL_is (X_shrW rfl rfl rfl (by omega) (by decide) (by simp only [Int.reduceToNat, Int.reducePow] <;> rfl)) rfl rfl rfl ?_
            refine WL_is (X_andW (k := .u16) rfl rfl rfl (by exact u16_and7 _ (by omega) (by omega))) rfl rfl rfl ?_
            refine WL_is (X_convW rfl rfl rfl rfl (by exact wrap_u8_in (by omega) (by omega))) rfl rfl rfl ?_
            refine WL_is (X_assign rfl rfl) rfl rfl rfl ?_
            (repeat (first | refine WL_nil ?_ | refine Then_normal ?_ | refine W_seq ?_))
            skip
            refine W_region rfl ?_
            refine WL_is (X_move rfl rfl) rfl rfl rfl ?_
            (repeat (first | refine WL_nil ?_ | refine Then_normal ?_ | refine W_seq ?_ | refine W_block ?_))
            skip
            refine W_region rfl ?_
            refine WL_is (X_eql_f rfl rfl rfl (by omega)) rfl rfl rfl ?_
            refine WL_is (X_assign rfl rfl) rfl rfl rfl ?_
            (repeat (first | refine WL_nil ?_ | refine Then_normal ?_ | refine W_seq ?_ | refine W_skip ?_ | refine W_false rfl ?_))
            skip
            refine W_region rfl ?_
            refine WL_is (X_eql_t rfl rfl rfl (by omega)) rfl rfl rfl ?_
            refine WL_is (X_assign rfl rfl) rfl rfl rfl ?_
            (repeat (first | refine WL_nil ?_ | refine Then_normal ?_ | refine W_seq ?_ | refine W_exit ?_ | refine Then_exit ?_ | refine inBlk_here ?_ | refine inBlk_out rfl ?_ | refine W_true rfl ?_))
            skip
            refine W_region rfl ?_
            refine WL_is (X_move rfl rfl) rfl rfl rfl ?_
            refine WL_is (X_loadA rfl rfl (by exact idx2) rfl rfl rfl) rfl rfl rfl ?_
            refine WL_is (X_move rfl rfl) rfl rfl rfl ?_
            refine WL_call rfl rfl rfl Try.func25 rfl rfl rfl rfl (c3 h (le.refl _)) ?_
            rintro _ _ H1 L1 ⟨⟨U, W, rfl, s1, s2⟩, rfl⟩
            obtain ⟨_, _, rfl⟩ := s1.shape
            obtain ⟨_, _, rfl⟩ := s2.shape
            simp only [List.nil_append, aclV]
            refine WL_is (X_fieldAddr rfl rfl rfl (by simp only [Nat.zero_add] <;> rfl)) rfl rfl rfl ?_
            refine WL_store rfl rfl rfl (by exact idx0) rfl rfl rfl rfl rfl rfl rfl rfl rfl ?_
            (repeat (first | refine WL_nil ?_ | refine Then_normal ?_ | refine W_seq ?_ | refine W_exit ?_ | refine Then_exit ?_ | refine inBlk_here ?_ | refine inBlk_out rfl ?_))
            skip
            refine W_region rfl ?_
            refine WL_is (X_move rfl rfl) rfl rfl rfl ?_
            (repeat (first | refine WL_nil ?_ | refine Then_normal ?_ | refine W_seq ?_ | refine W_block ?_))
            skip
            refine W_region rfl ?_
            refine WL_is (X_eql_f rfl rfl rfl (by omega)) rfl rfl rfl ?_
            refine WL_is (X_assign rfl rfl) rfl rfl rfl ?_
            (repeat (first | refine WL_nil ?_ | refine Then_normal ?_ | refine W_seq ?_ | refine W_false rfl ?_))
            skip
            refine W_region rfl ?_
            refine WL_is (X_eql_t rfl rfl rfl (by omega)) rfl rfl rfl ?_
            refine WL_is (X_assign rfl rfl) rfl rfl rfl ?_
            (repeat (first | refine WL_nil ?_ | refine Then_normal ?_ | refine W_seq ?_ | refine W_true rfl ?_))
            skip
            refine W_region rfl ?_
            refine WL_is (X_move rfl rfl) rfl rfl rfl ?_
            refine WL_is (X_fieldAddr rfl rfl rfl (by simp only [Nat.zero_add] <;> rfl)) rfl rfl rfl ?_
            refine WL_store rfl rfl rfl (by exact idx0) rfl rfl rfl rfl rfl rfl rfl rfl rfl ?_
            (repeat (first | refine WL_nil ?_ | refine Then_normal ?_ | refine W_seq ?_))
            by_cases hu0 : c.uid = 0
            · rw [if_neg (fun h => h.1 hu0)] at fin
              skip
              refine W_region rfl ?_
              refine WL_is (X_fieldAddr rfl rfl rfl (by simp only [Nat.zero_add] <;> rfl)) rfl rfl rfl ?_
              refine WL_is (X_load1 rfl rfl (by exact idx3) rfl rfl) rfl rfl rfl ?_
              refine WL_is (X_neq_f rfl rfl rfl (by omega)) rfl rfl rfl ?_
              refine WL_is (X_move rfl rfl) rfl rfl rfl ?_
              refine WL_off rfl rfl rfl ?_
              refine WL_off rfl rfl rfl ?_
              refine WL_off rfl rfl rfl ?_
              refine WL_off rfl rfl rfl ?_
              refine WL_off rfl rfl rfl ?_
              refine WL_is (X_pick_f rfl rfl rfl) rfl rfl rfl ?_
              (repeat (first | refine WL_nil ?_ | refine Then_normal ?_ | refine W_seq ?_ | refine W_skip ?_ | refine inBlk_normal ?_ | refine W_false rfl ?_))
              try refine WL_off rfl rfl rfl ?_
              skip
              refine W_region rfl ?_
              refine WL_is (X_loadA rfl rfl (by exact idx0) rfl rfl rfl) rfl rfl rfl ?_
              refine WL_store rfl rfl rfl (by exact idx1) rfl rfl rfl rfl rfl rfl rfl rfl rfl ?_
              refine WL_is (X_assign rfl rfl) rfl rfl rfl ?_
              (repeat (first | refine WL_nil ?_ | refine Then_normal ?_ | refine W_ret ?_))
              refine Body_vals (.cons (.cellA rfl (by exact idx1) rfl rfl rfl) (.cons (.tmp rfl) .nil)) rfl ?_
              exact UpdE.sub (R1 := []) (SubR.none _) ⟨fin _ _ ⟨_, _, _, _, _, rfl, s1, s2, Sl.nil, Sl.nil, Sl.nil⟩, rfl⟩
            · have c5 := c4 H1 L1
              cases hin : c.inB G with
              | true =>
                rw [hin] at c5
                rw [if_neg (fun h => by rw [hin] at h; cases h.2)] at fin
                skip
                refine W_region rfl ?_
                refine WL_is (X_fieldAddr rfl rfl rfl (by simp only [Nat.zero_add] <;> rfl)) rfl rfl rfl ?_
                refine WL_is (X_load1 rfl rfl (by exact idx3) rfl rfl) rfl rfl rfl ?_
                refine WL_is (X_neq_t rfl rfl rfl (by omega)) rfl rfl rfl ?_
                refine WL_is (X_move rfl rfl) rfl rfl rfl ?_
                refine WL_is (X_loadA rfl rfl (by exact idx3) rfl rfl rfl) rfl rfl rfl ?_
                refine WL_is (X_fieldAddr rfl rfl rfl (by simp only [Nat.zero_add] <;> rfl)) rfl rfl rfl ?_
                refine WL_is (X_load1 rfl rfl (by exact idx0) rfl rfl) rfl rfl rfl ?_
                refine WL_is (X_callv rfl rfl rfl Try.func27 rfl (by assumption)) rfl rfl rfl ?_
                refine WL_is (X_not rfl rfl) rfl rfl rfl ?_
                refine WL_is (X_pick_t rfl rfl rfl) rfl rfl rfl ?_
                (repeat (first | refine WL_nil ?_ | refine Then_normal ?_ | refine W_seq ?_ | refine W_skip ?_ | refine inBlk_normal ?_ | refine W_false rfl ?_))
                skip
                refine W_region rfl ?_
                refine WL_is (X_loadA rfl rfl (by exact idx0) rfl rfl rfl) rfl rfl rfl ?_
                refine WL_store rfl rfl rfl (by exact idx1) rfl rfl rfl rfl rfl rfl rfl rfl rfl ?_
                refine WL_is (X_assign rfl rfl) rfl rfl rfl ?_
                (repeat (first | refine WL_nil ?_ | refine Then_normal ?_ | refine W_ret ?_))
                refine Body_vals (.cons (.cellA rfl (by exact idx1) rfl rfl rfl) (.cons (.tmp rfl) .nil)) rfl ?_
                exact UpdE.sub (R1 := []) (SubR.none _) ⟨fin _ _ ⟨_, _, _, _, _, rfl, s1, s2, Sl.nil, Sl.nil, Sl.nil⟩, rfl⟩
              | false =>
                rw [hin] at c5
                rw [if_pos ⟨hu0, hin⟩] at fin
                skip
                refine W_region rfl ?_
                refine WL_is (X_fieldAddr rfl rfl rfl (by simp only [Nat.zero_add] <;> rfl)) rfl rfl rfl ?_
                refine WL_is (X_load1 rfl rfl (by exact idx3) rfl rfl) rfl rfl rfl ?_
                refine WL_is (X_neq_t rfl rfl rfl (by omega)) rfl rfl rfl ?_
                refine WL_is (X_move rfl rfl) rfl rfl rfl ?_
                refine WL_is (X_loadA rfl rfl (by exact idx3) rfl rfl rfl) rfl rfl rfl ?_
                refine WL_is (X_fieldAddr rfl rfl rfl (by simp only [Nat.zero_add] <;> rfl)) rfl rfl rfl ?_
                refine WL_is (X_load1 rfl rfl (by exact idx0) rfl rfl) rfl rfl rfl ?_
                refine WL_is (X_callv rfl rfl rfl Try.func27 rfl (by assumption)) rfl rfl rfl ?_
                refine WL_is (X_not rfl rfl) rfl rfl rfl ?_
                refine WL_is (X_pick_t rfl rfl rfl) rfl rfl rfl ?_
                (repeat (first | refine WL_nil ?_ | refine Then_normal ?_ | refine W_true rfl ?_))
                skip
                refine W_region rfl ?_
                refine WL_is (X_fieldAddr rfl rfl rfl (by simp only [Nat.zero_add] <;> rfl)) rfl rfl rfl ?_
                refine WL_is (X_load1 rfl rfl (by exact idx0) rfl rfl) rfl rfl rfl ?_
                refine WL_is (X_andNot rfl rfl rfl) rfl rfl rfl ?_
                refine WL_is (X_fieldAddr rfl rfl rfl (by simp only [Nat.zero_add] <;> rfl)) rfl rfl rfl ?_
                refine WL_store rfl rfl rfl (by exact idx0) rfl rfl rfl rfl rfl rfl rfl rfl rfl ?_
                (repeat (first | refine WL_nil ?_ | refine Then_normal ?_ | refine W_seq ?_ | refine inBlk_normal ?_))
                skip
                refine W_region rfl ?_
                refine WL_is (X_loadA rfl rfl (by exact idx0) rfl rfl rfl) rfl rfl rfl ?_
                refine WL_store rfl rfl rfl (by exact idx1) rfl rfl rfl rfl rfl rfl rfl rfl rfl ?_
                refine WL_is (X_assign rfl rfl) rfl rfl rfl ?_
                (repeat (first | refine WL_nil ?_ | refine Then_normal ?_ | refine W_ret ?_))
                refine Body_vals (.cons (.cellA rfl (by exact idx1) rfl rfl rfl) (.cons (.tmp rfl) .nil)) rfl ?_
                exact UpdE.sub (R1 := []) (SubR.none _) ⟨fin _ _ ⟨_, _, _, _, _, rfl, s1, s2, Sl.nil, Sl.nil, Sl.nil⟩, rfl⟩
          · have fin := fin _ rfl
            rw [if_neg (by decide), if_neg (by decide)] at fin
            (repeat (first | refine W_seq ?_))
            refine W_region rfl ?_
            refine WL_is (X_move rfl rfl) rfl rfl rfl ?_
            refine WL_is (X_shrW rfl rfl rfl (by omega) (by decide) (by simp only [Int.reduceToNat, Int.reducePow] <;> rfl)) rfl rfl rfl ?_
            refine WL_is (X_andW (k := .u16) rfl rfl rfl (by exact u16_and7 _ (by omega) (by omega))) rfl rfl rfl ?_
            refine WL_is (X_convW rfl rfl rfl rfl (by exact wrap_u8_in (by omega) (by omega))) rfl rfl rfl ?_
            refine WL_is (X_assign rfl rfl) rfl rfl rfl ?_
            (repeat (first | refine WL_nil ?_ | refine Then_normal ?_ | refine W_seq ?_))
            skip
            refine W_region rfl ?_
            refine WL_is (X_move rfl rfl) rfl rfl rfl ?_
            (repeat (first | refine WL_nil ?_ | refine Then_normal ?_ | refine W_seq ?_ | refine W_block ?_))
            skip
            refine W_region rfl ?_
            refine WL_is (X_eql_t rfl rfl rfl (by omega)) rfl rfl rfl ?_
            refine WL_is (X_assign rfl rfl) rfl rfl rfl ?_
            (repeat (first | refine WL_nil ?_ | refine Then_normal ?_ | refine W_exit ?_ | refine Then_exit ?_ | refine inBlk_here ?_ | refine W_true rfl ?_))
            skip
            refine W_draw0 6 rfl rfl rfl rfl ?_
            refine RG_val rfl rfl (fun _ => rfl) (fun _ => X_fieldAddr rfl rfl rfl (by simp only [Nat.zero_add] <;> rfl)) ?_
            refine RG_val rfl rfl (fun _ => rfl) (fun _ => X_load1 rfl rfl (by exact idx2) rfl rfl) ?_
            refine RG_val rfl rfl (fun _ => rfl) (fun _ => X_fieldAddr rfl rfl rfl (by simp only [Nat.zero_add] <;> rfl)) ?_
            refine RG_val rfl rfl (fun _ => rfl) (fun _ => X_loadA rfl rfl (by exact idx2) rfl rfl rfl) ?_
            refine RG_call (.opq (fun v h' => AclV h' v p.df) [] (fun _ => [])) [] _ (fun _ _ _ hl x => x.mono hl) rfl (fun _ => rfl) (fun _ => rfl) Try.func24 rfl rfl rfl (fun _ => rfl) (.refl _) (fun vs h' hl _ => (cD h' hl).wkn (fun v R' h'' _ e => ⟨e.1, by rw [e.2]; exact SubR.refl _⟩)) ?_
            refine RG_val rfl rfl (fun _ => rfl) (fun _ => X_fieldAddr rfl rfl rfl (by simp only [Nat.zero_add] <;> rfl)) ?_
            refine RG_nil ?_
            refine RG_end rfl (fun vs => by simp only [endE, List.cons_append, List.nil_append] <;> rfl) (fun vs => by simp only [endR, List.nil_append, List.append_nil] <;> rfl) (fun vs h' hf => hf) ?_
            rintro vs H1 L1 hF
            simp only [endF, Nat.zero_add, Nat.reduceAdd] at hF
            obtain ⟨⟨U, W, e4, s1, s2⟩, -⟩ := hF
            obtain ⟨_, _, rfl⟩ := s1.shape
            obtain ⟨_, _, rfl⟩ := s2.shape
            unfold aclV at e4
            simp only [Nat.zero_add, Nat.reduceAdd, e4]
            refine WL_store rfl rfl rfl (by exact idx0) rfl rfl rfl rfl rfl rfl rfl rfl rfl ?_
            refine WL_is (X_fieldAddr rfl rfl rfl (by simp only [Nat.zero_add] <;> rfl)) rfl rfl rfl ?_
            refine WL_store rfl rfl rfl (by exact idx0) rfl rfl rfl rfl rfl rfl rfl rfl rfl ?_
            (repeat (first | refine WL_nil ?_ | refine Then_normal ?_ | refine W_seq ?_ | refine inBlk_normal ?_))
            skip
            refine W_region rfl ?_
            refine WL_is (X_move rfl rfl) rfl rfl rfl ?_
            refine WL_is (X_loadA rfl rfl (by exact idx2) rfl rfl rfl) rfl rfl rfl ?_
            refine WL_is (X_move rfl rfl) rfl rfl rfl ?_
            refine WL_call rfl rfl rfl Try.func25 rfl rfl rfl rfl (c3 H1 L1) ?_
            rintro _ _ H2 L2 ⟨⟨U, W, rfl, s3, s4⟩, rfl⟩
            obtain ⟨_, _, rfl⟩ := s3.shape
            obtain ⟨_, _, rfl⟩ := s4.shape
            simp only [List.nil_append, aclV]
            refine WL_is (X_fieldAddr rfl rfl rfl (by simp only [Nat.zero_add] <;> rfl)) rfl rfl rfl ?_
            refine WL_store rfl rfl rfl (by exact idx0) rfl rfl rfl rfl rfl rfl rfl rfl rfl ?_
            (repeat (first | refine WL_nil ?_ | refine Then_normal ?_ | refine W_seq ?_ | refine W_exit ?_ | refine Then_exit ?_ | refine inBlk_here ?_ | refine inBlk_out rfl ?_))
            skip
            refine W_region rfl ?_
            refine WL_is (X_move rfl rfl) rfl rfl rfl ?_
            (repeat (first | refine WL_nil ?_ | refine Then_normal ?_ | refine W_seq ?_ | refine W_block ?_))
            skip
            refine W_region rfl ?_
            refine WL_is (X_eql_t rfl rfl rfl (by omega)) rfl rfl rfl ?_
            refine WL_is (X_assign rfl rfl) rfl rfl rfl ?_
            (repeat (first | refine WL_nil ?_ | refine Then_normal ?_ | refine W_true rfl ?_))
            skip
            refine W_region rfl ?_
            refine WL_is (X_move rfl rfl) rfl rfl rfl ?_
            refine WL_is (X_and rfl rfl rfl) rfl rfl rfl ?_
            refine WL_is (X_fieldAddr rfl rfl rfl (by simp only [Nat.zero_add] <;> rfl)) rfl rfl rfl ?_
            refine WL_is (X_load1 rfl rfl (by exact idx2) rfl rfl) rfl rfl rfl ?_
            refine WL_is (X_and rfl rfl rfl) rfl rfl rfl ?_
            refine WL_is (X_or rfl rfl rfl) rfl rfl rfl ?_
            refine WL_is (X_fieldAddr rfl rfl rfl (by simp only [Nat.zero_add] <;> rfl)) rfl rfl rfl ?_
            refine WL_store rfl rfl rfl (by exact idx0) rfl rfl rfl rfl rfl rfl rfl rfl rfl ?_
            (repeat (first | refine WL_nil ?_ | refine Then_normal ?_ | refine W_seq ?_ | refine inBlk_normal ?_))
            skip
            refine W_region rfl ?_
            refine WL_is (X_loadA rfl rfl (by exact idx0) rfl rfl rfl) rfl rfl rfl ?_
            refine WL_store rfl rfl rfl (by exact idx1) rfl rfl rfl rfl rfl rfl rfl rfl rfl ?_
            refine WL_is (X_assign rfl rfl) rfl rfl rfl ?_
            (repeat (first | refine WL_nil ?_ | refine Then_normal ?_ | refine W_ret ?_))
            refine Body_vals (.cons (.cellA rfl (by exact idx1) rfl rfl rfl) (.cons (.tmp rfl) .nil)) rfl ?_
            exact UpdE.sub (R1 := []) (SubR.none _) ⟨fin _ _ ⟨_, _, _, _, _, rfl, s3, s4, s1.mono L2, s2.mono L2, Sl.nil⟩, rfl⟩
          · have fin := fin _ rfl
            rw [if_pos rfl] at fin
            (repeat (first | refine W_seq ?_))
            refine W_region rfl ?_
            refine WL_is (X_move rfl rfl) rfl rfl rfl ?_
            refine WL_is (X_shrW rfl rfl rfl (by omega) (by decide) (by simp only [Int.reduceToNat, Int.reducePow] <;> rfl)) rfl rfl rfl ?_
            refine WL_is (X_andW (k := .u16) rfl rfl rfl (by exact u16_and7 _ (by omega) (by omega))) rfl rfl rfl ?_
            refine WL_is (X_convW rfl rfl rfl rfl (by exact wrap_u8_in (by omega) (by omega))) rfl rfl rfl ?_
            refine WL_is (X_assign rfl rfl) rfl rfl rfl ?_
            (repeat (first | refine WL_nil ?_ | refine Then_normal ?_ | refine W_seq ?_))
            skip
            refine W_region rfl ?_
            refine WL_is (X_move rfl rfl) rfl rfl rfl ?_
            (repeat (first | refine WL_nil ?_ | refine Then_normal ?_ | refine W_seq ?_ | refine W_block ?_))
            skip
            refine W_region rfl ?_
            refine WL_is (X_eql_f rfl rfl rfl (by omega)) rfl rfl rfl ?_
            refine WL_is (X_assign rfl rfl) rfl rfl rfl ?_
            (repeat (first | refine WL_nil ?_ | refine Then_normal ?_ | refine W_seq ?_ | refine W_skip ?_ | refine W_false rfl ?_))
            skip
            refine W_region rfl ?_
            refine WL_is (X_eql_f rfl rfl rfl (by omega)) rfl rfl rfl ?_
            refine WL_is (X_assign rfl rfl) rfl rfl rfl ?_
            (repeat (first | refine WL_nil ?_ | refine Then_normal ?_ | refine W_seq ?_ | refine W_skip ?_ | refine W_exit ?_ | refine Then_exit ?_ | refine inBlk_here ?_ | refine inBlk_out rfl ?_ | refine W_false rfl ?_))
            skip
            refine W_region rfl ?_
            refine WL_call rfl rfl rfl Try.func26 rfl rfl rfl rfl (cO h) ?_
            rintro _ _ H1 L1 ⟨⟨U, W, rfl, s1, s2⟩, rfl⟩
            obtain ⟨_, _, rfl⟩ := s1.shape
            obtain ⟨_, _, rfl⟩ := s2.shape
            simp only [List.nil_append, aclV]
            refine WL_is (X_fieldAddr rfl rfl rfl (by simp only [Nat.zero_add] <;> rfl)) rfl rfl rfl ?_
            refine WL_store rfl rfl rfl (by exact idx0) rfl rfl rfl rfl rfl rfl rfl rfl rfl ?_
            (repeat (first | refine WL_nil ?_ | refine Then_normal ?_ | refine W_seq ?_ | refine W_exit ?_ | refine inBlk_here ?_))
            skip
            refine W_region rfl ?_
            refine WL_is (X_move rfl rfl) rfl rfl rfl ?_
            (repeat (first | refine WL_nil ?_ | refine Then_normal ?_ | refine W_seq ?_ | refine W_block ?_))
            skip
            refine W_region rfl ?_
            refine WL_is (X_eql_f rfl rfl rfl (by omega)) rfl rfl rfl ?_
            refine WL_is (X_assign rfl rfl) rfl rfl rfl ?_
            (repeat (first | refine WL_nil ?_ | refine Then_normal ?_ | refine W_seq ?_ | refine W_false rfl ?_))
            skip
            refine W_region rfl ?_
            refine WL_is (X_eql_f rfl rfl rfl (by omega)) rfl rfl rfl ?_
            refine WL_is (X_assign rfl rfl) rfl rfl rfl ?_
            (repeat (first | refine WL_nil ?_ | refine Then_normal ?_ | refine W_seq ?_ | refine W_skip ?_ | refine inBlk_normal ?_ | refine W_false rfl ?_))
            skip
            refine W_region rfl ?_
            refine WL_is (X_loadA rfl rfl (by exact idx0) rfl rfl rfl) rfl rfl rfl ?_
            refine WL_store rfl rfl rfl (by exact idx1) rfl rfl rfl rfl rfl rfl rfl rfl rfl ?_
            refine WL_is (X_assign rfl rfl) rfl rfl rfl ?_
            (repeat (first | refine WL_nil ?_ | refine Then_normal ?_ | refine W_ret ?_))
            refine Body_vals (.cons (.cellA rfl (by exact idx1) rfl rfl rfl) (.cons (.tmp rfl) .nil)) rfl ?_
            exact UpdE.sub (R1 := []) (SubR.none _) ⟨fin _ _ ⟨_, _, _, _, _, rfl, s1, s2, Sl.nil, Sl.nil, Sl.nil⟩, rfl⟩
        · have hB : bornB c p kind = false := by unfold bornB; simp [k4]
          (repeat (first | refine W_seq ?_))
          skip
          refine W_region rfl ?_
          (refine WL_box rfl rfl rfl rfl rfl rfl ?_; intro b_)
          (refine WL_box rfl rfl rfl rfl rfl rfl ?_; intro b_)
          (refine WL_alloc rfl rfl rfl rfl rfl rfl ?_; intro b_)
          refine WL_is (X_assign rfl rfl) rfl rfl rfl ?_
          (repeat (first | refine WL_nil ?_ | refine Then_normal ?_ | refine W_seq ?_))
          skip
          refine W_region rfl ?_
          refine WL_is (X_loadA rfl rfl (by exact idx2) rfl rfl rfl) rfl rfl rfl ?_
          refine WL_is (X_callv rfl rfl rfl Try.func22 rfl (by assumption)) rfl rfl rfl ?_
          refine WL_is (X_neq_f rfl rfl rfl (by omega)) rfl rfl rfl ?_
          refine WL_is (X_move rfl rfl) rfl rfl rfl ?_
          refine WL_is (X_loadA rfl rfl (by exact idx1) rfl rfl rfl) rfl rfl rfl ?_
          refine WL_is (X_callv rfl rfl rfl Try.func23 rfl (by assumption)) rfl rfl rfl ?_
          refine WL_is (X_neq rfl rfl rfl) rfl rfl rfl ?_
          refine WL_is (X_pick_f rfl rfl rfl) rfl rfl rfl ?_
          refine WL_is (X_move rfl rfl) rfl rfl rfl ?_
          refine WL_is (X_move rfl rfl) rfl rfl rfl ?_
          refine WL_is (X_lss_f rfl rfl rfl (by omega)) rfl rfl rfl ?_
          refine WL_is (X_pick_f rfl rfl rfl) rfl rfl rfl ?_
          refine WL_is (X_move rfl rfl) rfl rfl rfl ?_
          refine WL_is (X_move rfl rfl) rfl rfl rfl ?_
          refine WL_is (X_gtr_t rfl rfl rfl (by omega)) rfl rfl rfl ?_
          refine WL_is (X_pick_f rfl rfl rfl) rfl rfl rfl ?_
          (repeat (first | refine WL_nil ?_ | refine Then_normal ?_ | refine W_seq ?_ | refine W_true rfl ?_))
          skip
          refine W_region rfl ?_
          refine WL_is (X_build rfl rfl rfl) rfl rfl rfl ?_
          refine WL_store rfl rfl rfl (by exact idx0) rfl rfl rfl rfl rfl rfl rfl rfl rfl ?_
          refine WL_is (X_assign rfl rfl) rfl rfl rfl ?_
          (repeat (first | refine WL_nil ?_ | refine Then_normal ?_ | refine W_ret ?_ | refine Then_ret ?_))
          refine Body_vals (.cons (.cellA rfl (by exact idx0) rfl rfl rfl) (.cons (.tmp rfl) .nil)) rfl ?_
          exact UpdE.sub (R1 := []) (SubR.none _) ⟨NewA.bad hB, rfl⟩
      · have hB : bornB c p kind = false := by unfold bornB; simp [k3]
        (repeat (first | refine W_seq ?_))
        skip
        refine W_region rfl ?_
        (refine WL_box rfl rfl rfl rfl rfl rfl ?_; intro b_)
        (refine WL_box rfl rfl rfl rfl rfl rfl ?_; intro b_)
        (refine WL_alloc rfl rfl rfl rfl rfl rfl ?_; intro b_)
        refine WL_is (X_assign rfl rfl) rfl rfl rfl ?_
        (repeat (first | refine WL_nil ?_ | refine Then_normal ?_ | refine W_seq ?_))
        skip
        refine W_region rfl ?_
        refine WL_is (X_loadA rfl rfl (by exact idx2) rfl rfl rfl) rfl rfl rfl ?_
        refine WL_is (X_callv rfl rfl rfl Try.func22 rfl (by assumption)) rfl rfl rfl ?_
        refine WL_is (X_neq_f rfl rfl rfl (by omega)) rfl rfl rfl ?_
        refine WL_is (X_move rfl rfl) rfl rfl rfl ?_
        refine WL_is (X_loadA rfl rfl (by exact idx1) rfl rfl rfl) rfl rfl rfl ?_
        refine WL_is (X_callv rfl rfl rfl Try.func23 rfl (by assumption)) rfl rfl rfl ?_
        refine WL_is (X_neq rfl rfl rfl) rfl rfl rfl ?_
        refine WL_is (X_pick_f rfl rfl rfl) rfl rfl rfl ?_
        refine WL_is (X_move rfl rfl) rfl rfl rfl ?_
        refine WL_is (X_move rfl rfl) rfl rfl rfl ?_
        refine WL_is (X_lss_t rfl rfl rfl (by omega)) rfl rfl rfl ?_
        refine WL_is (X_pick_f rfl rfl rfl) rfl rfl rfl ?_
        refine WL_is (X_move rfl rfl) rfl rfl rfl ?_
        refine WL_off rfl rfl rfl ?_
        refine WL_off rfl rfl rfl ?_
        refine WL_is (X_pick_t rfl rfl rfl) rfl rfl rfl ?_
        (repeat (first | refine WL_nil ?_ | refine Then_normal ?_ | refine W_seq ?_ | refine W_true rfl ?_))
        skip
        refine W_region rfl ?_
        refine WL_is (X_build rfl rfl rfl) rfl rfl rfl ?_
        refine WL_store rfl rfl rfl (by exact idx0) rfl rfl rfl rfl rfl rfl rfl rfl rfl ?_
        refine WL_is (X_assign rfl rfl) rfl rfl rfl ?_
        (repeat (first | refine WL_nil ?_ | refine Then_normal ?_ | refine W_ret ?_ | refine Then_ret ?_))
        refine Body_vals (.cons (.cellA rfl (by exact idx0) rfl rfl rfl) (.cons (.tmp rfl) .nil)) rfl ?_
        exact UpdE.sub (R1 := []) (SubR.none _) ⟨NewA.bad hB, rfl⟩
    | false =>
      rw [k2] at c2
      have hB : bornB c p kind = false := by unfold bornB; rw [k2]; simp
      (repeat (first | refine W_seq ?_))
      skip
      refine W_region rfl ?_
      (refine WL_box rfl rfl rfl rfl rfl rfl ?_; intro b_)
      (refine WL_box rfl rfl rfl rfl rfl rfl ?_; intro b_)
      (refine WL_alloc rfl rfl rfl rfl rfl rfl ?_; intro b_)
      refine WL_is (X_assign rfl rfl) rfl rfl rfl ?_
      (repeat (first | refine WL_nil ?_ | refine Then_normal ?_ | refine W_seq ?_))
      skip
      refine W_region rfl ?_
      refine WL_is (X_loadA rfl rfl (by exact idx2) rfl rfl rfl) rfl rfl rfl ?_
      refine WL_is (X_callv rfl rfl rfl Try.func22 rfl (by assumption)) rfl rfl rfl ?_
      refine WL_is (X_neq_f rfl rfl rfl (by omega)) rfl rfl rfl ?_
      refine WL_is (X_move rfl rfl) rfl rfl rfl ?_
      refine WL_is (X_loadA rfl rfl (by exact idx1) rfl rfl rfl) rfl rfl rfl ?_
      refine WL_is (X_callv rfl rfl rfl Try.func23 rfl (by assumption)) rfl rfl rfl ?_
      refine WL_is (X_neq rfl rfl rfl) rfl rfl rfl ?_
      refine WL_is (X_pick_f rfl rfl rfl) rfl rfl rfl ?_
      refine WL_is (X_move rfl rfl) rfl rfl rfl ?_
      refine WL_off rfl rfl rfl ?_
      refine WL_off rfl rfl rfl ?_
      refine WL_is (X_pick_t rfl rfl rfl) rfl rfl rfl ?_
      refine WL_is (X_move rfl rfl) rfl rfl rfl ?_
      refine WL_off rfl rfl rfl ?_
      refine WL_off rfl rfl rfl ?_
      refine WL_is (X_pick_t rfl rfl rfl) rfl rfl rfl ?_
      (repeat (first | refine WL_nil ?_ | refine Then_normal ?_ | refine W_seq ?_ | refine W_true rfl ?_))
      skip
      refine W_region rfl ?_
      refine WL_is (X_build rfl rfl rfl) rfl rfl rfl ?_
      refine WL_store rfl rfl rfl (by exact idx0) rfl rfl rfl rfl rfl rfl rfl rfl rfl ?_
      refine WL_is (X_assign rfl rfl) rfl rfl rfl ?_
      (repeat (first | refine WL_nil ?_ | refine Then_normal ?_ | refine W_ret ?_ | refine Then_ret ?_))
      refine Body_vals (.cons (.cellA rfl (by exact idx0) rfl rfl rfl) (.cons (.tmp rfl) .nil)) rfl ?_
      exact UpdE.sub (R1 := []) (SubR.none _) ⟨NewA.bad hB, rfl⟩
  · rw [if_neg k1] at c1
    have hB : bornB c p kind = false := by unfold bornB; simp [k1]
    (repeat (first | refine W_seq ?_))
    skip
    refine W_region rfl ?_
    (refine WL_box rfl rfl rfl rfl rfl rfl ?_; intro b_)
    (refine WL_box rfl rfl rfl rfl rfl rfl ?_; intro b_)
    (refine WL_alloc rfl rfl rfl rfl rfl rfl ?_; intro b_)
    refine WL_is (X_assign rfl rfl) rfl rfl rfl ?_
    (repeat (first | refine WL_nil ?_ | refine Then_normal ?_ | refine W_seq ?_))
    skip
    refine W_region rfl ?_
    refine WL_is (X_loadA rfl rfl (by exact idx2) rfl rfl rfl) rfl rfl rfl ?_
    refine WL_is (X_callv rfl rfl rfl Try.func22 rfl (by assumption)) rfl rfl rfl ?_
    refine WL_is (X_neq_t rfl rfl rfl (by omega)) rfl rfl rfl ?_
    refine WL_is (X_move rfl rfl) rfl rfl rfl ?_
    refine WL_off rfl rfl rfl ?_
    refine WL_off rfl rfl rfl ?_
    refine WL_off rfl rfl rfl ?_
    refine WL_is (X_pick_t rfl rfl rfl) rfl rfl rfl ?_
    refine WL_is (X_move rfl rfl) rfl rfl rfl ?_
    refine WL_off rfl rfl rfl ?_
    refine WL_off rfl rfl rfl ?_
    refine WL_is (X_pick_t rfl rfl rfl) rfl rfl rfl ?_
    refine WL_is (X_move rfl rfl) rfl rfl rfl ?_
    refine WL_off rfl rfl rfl ?_
    refine WL_off rfl rfl rfl ?_
    refine WL_is (X_pick_t rfl rfl rfl) rfl rfl rfl ?_
    (repeat (first | refine WL_nil ?_ | refine Then_normal ?_ | refine W_seq ?_ | refine W_true rfl ?_))
    skip
    refine W_region rfl ?_
    refine WL_is (X_build rfl rfl rfl) rfl rfl rfl ?_
    refine WL_store rfl rfl rfl (by exact idx0) rfl rfl rfl rfl rfl rfl rfl rfl rfl ?_
    refine WL_is (X_assign rfl rfl) rfl rfl rfl ?_
    (repeat (first | refine WL_nil ?_ | refine Then_normal ?_ | refine W_ret ?_ | refine Then_ret ?_))
    refine Body_vals (.cons (.cellA rfl (by exact idx0) rfl rfl rfl) (.cons (.tmp rfl) .nil)) rfl ?_
    exact UpdE.sub (R1 := []) (SubR.none _) ⟨NewA.bad hB, rfl⟩
end Go.Proofs.Ytcgmbfgmofcemaa
