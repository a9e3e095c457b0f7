/- Values under keys: what a setting keeps; that the chapter is alive. -/
import Derived.Test.YtakdjabamjgcfaaXattrJ
namespace Go.Proofs.Ytakdjabamjgcfaa
set_option maxRecDepth 4000
open Go Go.Par PH
theorem may_tame {l : Xs} (h : mayX l = true) : tameX l := by
  obtain ⟨h1, h2, -⟩ := mayX_iff.1 h
  refine ⟨by omega, fun x hx => ?_⟩
  have := (valB_iff.1 (h2 x hx)).1
  unfold keyE at this
  split at this
  · cases this
  · split at this
    · cases this
    · omega
theorem setE_0 {l : Xs} {k z : ByteArray} {how : Int} (h : setE l k z how = 0) : mayX l = true ∧ keyE k = 0 ∧ z.size ≤ 16 ∧ (isX l k = false → ¬ l.length = 4) := by
  unfold setE at h
  split at h
  · next hm =>
    split at h
    · next hk =>
      split at h
      · cases h
      · split at h
        · next hx => exact ⟨hm.1, hk, by omega, fun e => by rw [e] at hx; cases hx⟩
        · split at h
          · cases h
          · split at h
            · cases h
            · next hx => exact ⟨hm.1, hk, by omega, fun _ => hx⟩
    · contradiction
  · cases h
theorem setE_of {l : Xs} {k z : ByteArray} (h1 : mayX l = true) (h2 : keyE k = 0) (h3 : z.size ≤ 16) : setE l k z 0 = if isX l k = true then 0 else if l.length = 4 then 628 else 0 := by
  unfold setE
  rw [if_pos ⟨h1, by decide⟩, if_pos h2, if_neg (by omega)]
  by_cases hx : isX l k = true
  · simp [hx]
  · simp [hx]
theorem may_ins {l : Xs} {k z : ByteArray} {how : Int} (h : setE l k z how = 0) : mayX (insX l k z) = true := by
  obtain ⟨hm, hk, hz, h4⟩ := setE_0 h
  obtain ⟨h1, h2, h3⟩ := mayX_iff.1 hm
  refine mayX_iff.2 ⟨?_, fun x hx => ?_, insX_srt h3⟩
  · rw [insX_len l k z h3]
    cases hx : isX l k with
    | true => simp only [if_pos]; omega
    | false => have := h4 hx; simp only [Bool.false_eq_true, if_false]; omega
  · rcases insX_mem hx with e | e
    · rw [e]; exact valB_iff.2 ⟨hk, hz⟩
    · exact h2 x e
theorem may_del {l : Xs} {k : ByteArray} (h : mayX l = true) : mayX (delX l k) = true := by
  obtain ⟨h1, h2, h3⟩ := mayX_iff.1 h
  have := delX_le l k
  exact mayX_iff.2 ⟨by omega, fun x hx => h2 x (delX_mem hx), delX_srt h3⟩
theorem there_of {l : Xs} {k : ByteArray} (h : mayX l = true) : thereX l k = if keyE k = 0 then (if isX l k = true then 0 else 661) else keyE k := by unfold thereX; rw [if_pos h]
/-- The key's own value. -/
theorem ins_own {l : Xs} {k z : ByteArray} {how : Int} (h : setE l k z how = 0) : thereX (insX l k z) k = 0 ∧ valX (insX l k z) k = z := by
  obtain ⟨hm, hk, hz, h4⟩ := setE_0 h
  have e : thereX (insX l k z) k = 0 := by rw [there_of (may_ins h), if_pos hk, isX_ins]; simp
  refine ⟨e, ?_⟩
  unfold valX
  rw [if_pos e, getX_ins, if_pos rfl]; rfl
/-- Another key's value. -/
theorem ins_other {l : Xs} {k z o : ByteArray} {how : Int} (h : setE l k z how = 0) (hne : ¬ o = k) : thereX (insX l k z) o = thereX l o ∧ valX (insX l k z) o = valX l o := by
  obtain ⟨hm, hk, hz, h4⟩ := setE_0 h
  have hne' : ¬ k = o := fun e => hne e.symm
  have e : thereX (insX l k z) o = thereX l o := by rw [there_of (may_ins h), there_of hm, isX_ins, decide_eq_false hne', Bool.or_false]
  refine ⟨e, ?_⟩
  unfold valX
  rw [e, getX_ins, if_neg hne']
theorem del_other {l : Xs} {k o : ByteArray} (hm : mayX l = true) (hne : ¬ o = k) : thereX (delX l k) o = thereX l o ∧ valX (delX l k) o = valX l o := by
  have hne' : ¬ k = o := fun e => hne e.symm
  have e : thereX (delX l k) o = thereX l o := by rw [there_of (may_del hm), there_of hm, isX_del hne']
  refine ⟨e, ?_⟩
  unfold valX
  rw [e, getX_del hne']
theorem back_X {l : Xs} {k z : ByteArray} {how : Int} (h : setE l k z how = 0) (ht : thereX l k = 661) : delX (insX l k z) k = l := by
  obtain ⟨hm, hk, hz, h4⟩ := setE_0 h
  refine del_ins ?_
  rw [there_of hm, if_pos hk] at ht
  split at ht
  · cases ht
  · next hx => simpa using hx
theorem order_E {l : Xs} {a b v w : ByteArray} (ha : setE l a v 0 = 0) (hb : setE l b w 0 = 0) (hab : ¬ a = b) : setE (insX l a v) b w 0 = setE (insX l b w) a v 0 := by
  obtain ⟨hm, hka, hva, h4a⟩ := setE_0 ha
  obtain ⟨-, hkb, hvb, h4b⟩ := setE_0 hb
  have hs := srt_of_may hm
  have hba : ¬ b = a := fun e => hab e.symm
  rw [setE_of (may_ins ha) hkb hvb, setE_of (may_ins hb) hka hva, isX_ins, isX_ins, decide_eq_false hab, decide_eq_false hba, Bool.or_false, Bool.or_false, insX_len l a v hs, insX_len l b w hs]
  cases h1 : isX l a with
  | true =>
    cases h2 : isX l b with
    | true => simp
    | false => have := h4b h2; simp [this]
  | false =>
    have := h4a h1
    cases h2 : isX l b with
    | true => simp [this]
    | false => simp
theorem order_L {l : Xs} {a b v w : ByteArray} (ha : setE l a v 0 = 0) (hb : setE l b w 0 = 0) (hab : ¬ a = b) : setL (insX l a v) b w 0 = setL (insX l b w) a v 0 := by
  unfold setL
  rw [order_E ha hb hab, ins_ins hab]
def exA : Xs := [(⟨#[98]⟩, ⟨#[49]⟩)]
def exB : Xs := [(⟨#[97]⟩, ⟨#[50]⟩), (⟨#[98]⟩, ⟨#[49]⟩)]
def exC : Xs := [(⟨#[97]⟩, ⟨#[50]⟩)]
theorem xx1 : setE [] ⟨#[98]⟩ ⟨#[49]⟩ 0 = 0 := by kernel_rfl
theorem xx2 : setL [] ⟨#[98]⟩ ⟨#[49]⟩ 0 = exA := by kernel_rfl
theorem xx3 : setE exA ⟨#[97]⟩ ⟨#[50]⟩ 1 = 0 := by kernel_rfl
theorem xx4 : setL exA ⟨#[97]⟩ ⟨#[50]⟩ 1 = exB := by kernel_rfl
theorem xx5 : thereX exB ⟨#[97]⟩ = 0 := by kernel_rfl
theorem xx6 : valX exB ⟨#[97]⟩ = ⟨#[50]⟩ := by kernel_rfl
theorem xx7 : setE exB ⟨#[97]⟩ ⟨#[51]⟩ 1 = 617 := by kernel_rfl
theorem xx8 : thereX exB ⟨#[98]⟩ = 0 := by kernel_rfl
theorem xx9 : remL exB ⟨#[98]⟩ = exC := by kernel_rfl
theorem xx10 : mayX exB = true := by kernel_rfl
theorem xx11 : keyE ⟨#[]⟩ = 622 := by kernel_rfl
theorem xx12 : keyE ⟨#[107]⟩ = 0 := by kernel_rfl
theorem tame0 : tameX [] := ⟨by simp, (fun _ h => by cases h)⟩
theorem tameA : tameX exA := may_tame (by kernel_rfl)
theorem tameB : tameX exB := may_tame xx10
attribute [local irreducible] W WL Does Exec Body Then inBlk RG WR row obj pblk
set_option maxHeartbeats 1000000 in
theorem aliveX_fn (h : PH) : Does Try.prog 8 [] [] h (Ret fun r _ _ => r = .bool true) := by
  have hk1 := fun h' => key_fn h' ⟨#[]⟩
  have hk2 := fun h' => key_fn h' ⟨#[107]⟩
  simp only [xx11, xx12] at hk1 hk2
  refine Does_of_W Try.func8 rfl (n := 109) rfl rfl (by simp only [argE] <;> rfl) ?_
  (repeat (first | refine W_seq ?_))
  refine W_region rfl ?_
  refine WL_is (X_assign rfl rfl) rfl rfl rfl ?_
  (repeat (first | refine WL_nil ?_ | refine Then_normal ?_ | refine W_seq ?_))
  skip
  refine W_region rfl ?_
  refine WL_call rfl rfl rfl Try.func9 rfl rfl rfl rfl (set_fn h [] (.slice none 0 0) ⟨#[98]⟩ ⟨#[49]⟩ 0 Sl.nil tame0) ?_
  rintro _ _ H1 M1 ⟨w1, rfl, s1, rfl⟩
  rw [xx1]; rw [xx2] at s1
  obtain ⟨a1, c1, rfl⟩ := s1.shape
  simp only [List.nil_append]
  refine WL_is (X_move rfl rfl) rfl rfl rfl ?_
  refine WL_is (X_extract rfl rfl rfl) rfl rfl rfl ?_
  refine WL_is (X_extract rfl rfl rfl) rfl rfl rfl ?_
  refine WL_is (X_assign rfl rfl) rfl rfl rfl ?_
  refine WL_is (X_assign rfl rfl) rfl rfl rfl ?_
  (repeat (first | refine WL_nil ?_ | refine Then_normal ?_ | refine W_seq ?_))
  skip
  refine W_region rfl ?_
  refine WL_is (X_move rfl rfl) rfl rfl rfl ?_
  refine WL_call rfl rfl rfl Try.func9 rfl rfl rfl rfl (set_fn H1 exA _ ⟨#[97]⟩ ⟨#[50]⟩ 1 s1 tameA) ?_
  rintro _ _ H2 M2 ⟨w2, rfl, s2, rfl⟩
  rw [xx3]; rw [xx4] at s2
  obtain ⟨a2, c2, rfl⟩ := s2.shape
  simp only [List.nil_append]
  have g1 := get_fn H2 exB _ ⟨#[97]⟩ s2 tameB
  rw [xx5, xx6] at g1
  refine WL_is (X_move rfl rfl) rfl rfl rfl ?_
  refine WL_is (X_extract rfl rfl rfl) rfl rfl rfl ?_
  refine WL_is (X_extract rfl rfl rfl) rfl rfl rfl ?_
  refine WL_is (X_assign rfl rfl) rfl rfl rfl ?_
  refine WL_is (X_assign rfl rfl) rfl rfl rfl ?_
  (repeat (first | refine WL_nil ?_ | refine Then_normal ?_ | refine W_seq ?_))
  skip
  refine W_region rfl ?_
  refine WL_is (X_move rfl rfl) rfl rfl rfl ?_
  refine WL_is (X_callv rfl rfl rfl Try.func14 rfl (by assumption)) rfl rfl rfl ?_
  refine WL_is (X_move rfl rfl) rfl rfl rfl ?_
  refine WL_is (X_extract rfl rfl rfl) rfl rfl rfl ?_
  refine WL_is (X_extract rfl rfl rfl) rfl rfl rfl ?_
  refine WL_is (X_assign rfl rfl) rfl rfl rfl ?_
  refine WL_is (X_assign rfl rfl) rfl rfl rfl ?_
  (repeat (first | refine WL_nil ?_ | refine Then_normal ?_ | refine W_seq ?_))
  skip
  refine W_region rfl ?_
  refine WL_is (X_move rfl rfl) rfl rfl rfl ?_
  refine WL_call rfl rfl rfl Try.func9 rfl rfl rfl rfl (set_fn H2 exB _ ⟨#[97]⟩ ⟨#[51]⟩ 1 s2 tameB) ?_
  rintro _ _ H3 M3 ⟨w3, rfl, -, rfl⟩
  rw [xx7]
  simp only [List.nil_append]
  replace s2 := s2.mono M3
  refine WL_is (X_move rfl rfl) rfl rfl rfl ?_
  refine WL_is (X_extract rfl rfl rfl) rfl rfl rfl ?_
  refine WL_is (X_extract rfl rfl rfl) rfl rfl rfl ?_
  refine WL_is (X_assign rfl rfl) rfl rfl rfl ?_
  refine WL_is (X_assign rfl rfl) rfl rfl rfl ?_
  (repeat (first | refine WL_nil ?_ | refine Then_normal ?_ | refine W_seq ?_))
  skip
  refine W_region rfl ?_
  refine WL_is (X_move rfl rfl) rfl rfl rfl ?_
  refine WL_call rfl rfl rfl Try.func16 rfl rfl rfl rfl (rem_fn H3 exB _ ⟨#[98]⟩ s2 tameB) ?_
  rintro _ _ H4 M4 ⟨w4, rfl, s4, rfl⟩
  rw [xx8]; rw [xx9] at s4
  obtain ⟨a4, c4, rfl⟩ := s4.shape
  simp only [List.nil_append]
  replace s2 := s2.mono M4
  refine WL_is (X_move rfl rfl) rfl rfl rfl ?_
  refine WL_is (X_extract rfl rfl rfl) rfl rfl rfl ?_
  refine WL_is (X_extract rfl rfl rfl) rfl rfl rfl ?_
  refine WL_is (X_assign rfl rfl) rfl rfl rfl ?_
  refine WL_is (X_assign rfl rfl) rfl rfl rfl ?_
  (repeat (first | refine WL_nil ?_ | refine Then_normal ?_ | refine W_seq ?_))
  skip
  refine W_region rfl ?_
  refine WL_is (X_move rfl rfl) rfl rfl rfl ?_
  refine WL_call rfl rfl rfl Try.func18 rfl rfl rfl rfl (keys_fn H4 exB _ s2 tameB) ?_
  rintro _ _ H5 M5 ⟨w5, rfl, s5, rfl⟩
  rw [xx10, if_pos rfl]; rw [xx10, if_pos rfl] at s5
  obtain ⟨a5, c5, rfl⟩ := s5.shape
  simp only [List.nil_append]
  replace s2 := s2.mono M5
  replace hk1 := hk1 H5
  replace hk2 := hk2 H5
  have e2 : exB.length = 2 := rfl
  have e5 : (exB.map (·.1)).length = 2 := rfl
  have k2 : exB[(0 : Int).toNat]'(by decide) = (⟨#[97]⟩, ⟨#[50]⟩) := rfl
  have k5 : (exB.map (·.1))[(1 : Int).toNat]'(by decide) = (⟨#[98]⟩ : ByteArray) := rfl
  have b1 : ((⟨#[97]⟩ : ByteArray) == ⟨#[97]⟩) = true := rfl
  have b2 : ((⟨#[50]⟩ : ByteArray) == ⟨#[50]⟩) = true := rfl
  have b3 : ((⟨#[98]⟩ : ByteArray) == ⟨#[98]⟩) = true := rfl
  refine WL_is (X_move rfl rfl) rfl rfl rfl ?_
  refine WL_is (X_extract rfl rfl rfl) rfl rfl rfl ?_
  refine WL_is (X_extract rfl rfl rfl) rfl rfl rfl ?_
  refine WL_is (X_assign rfl rfl) rfl rfl rfl ?_
  refine WL_is (X_assign rfl rfl) rfl rfl rfl ?_
  (repeat (first | refine WL_nil ?_ | refine Then_normal ?_ | refine W_seq ?_))
  skip
  refine W_region rfl ?_
  refine WL_is (X_move rfl rfl) rfl rfl rfl ?_
  refine WL_is (X_eql_t rfl rfl rfl (by omega)) rfl rfl rfl ?_
  refine WL_is (X_move rfl rfl) rfl rfl rfl ?_
  refine WL_is (X_move rfl rfl) rfl rfl rfl ?_
  refine WL_is (X_len rfl rfl rfl) rfl rfl rfl ?_
  refine WL_is (X_eql rfl rfl rfl) rfl rfl rfl ?_
  refine WL_is (X_pick_t rfl rfl rfl) rfl rfl rfl ?_
  refine WL_is (X_move rfl rfl) rfl rfl rfl ?_
  refine WL_is (X_move rfl rfl) rfl rfl rfl ?_
  refine WL_is (X_eql_t rfl rfl rfl (by omega)) rfl rfl rfl ?_
  refine WL_is (X_pick_t rfl rfl rfl) rfl rfl rfl ?_
  refine WL_is (X_move rfl rfl) rfl rfl rfl ?_
  refine WL_is (X_move rfl rfl) rfl rfl rfl ?_
  refine WL_is (X_len_sl rfl rfl rfl (by assumption)) rfl rfl rfl ?_
  refine WL_is (X_eql_t rfl rfl rfl (by omega)) rfl rfl rfl ?_
  refine WL_is (X_pick_t rfl rfl rfl) rfl rfl rfl ?_
  refine WL_is (X_move rfl rfl) rfl rfl rfl ?_
  refine WL_is (X_move rfl rfl) rfl rfl rfl ?_
  (refine WL_index_sl rfl rfl rfl rfl rfl (by assumption) (by omega) (by omega) rfl rfl rfl ?_; intro p_ hp_)
  (refine WL_fieldAddr_at rfl rfl (by assumption) rfl rfl rfl rfl ?_; intro p_ hp_)
  refine WL_is (X_load1_at rfl rfl (by assumption) rfl rfl) rfl rfl rfl ?_
  refine WL_is (X_eqS_c rfl rfl rfl (by assumption)) rfl rfl rfl ?_
  refine WL_is (X_pick_t rfl rfl rfl) rfl rfl rfl ?_
  refine WL_is (X_move rfl rfl) rfl rfl rfl ?_
  refine WL_is (X_move rfl rfl) rfl rfl rfl ?_
  refine WL_is (X_eqS_c rfl rfl rfl (by assumption)) rfl rfl rfl ?_
  refine WL_is (X_pick_t rfl rfl rfl) rfl rfl rfl ?_
  refine WL_is (X_move rfl rfl) rfl rfl rfl ?_
  refine WL_is (X_move rfl rfl) rfl rfl rfl ?_
  refine WL_is (X_eql_t rfl rfl rfl (by omega)) rfl rfl rfl ?_
  refine WL_is (X_pick_t rfl rfl rfl) rfl rfl rfl ?_
  refine WL_is (X_move rfl rfl) rfl rfl rfl ?_
  refine WL_is (X_move rfl rfl) rfl rfl rfl ?_
  refine WL_is (X_eql_t rfl rfl rfl (by omega)) rfl rfl rfl ?_
  refine WL_is (X_pick_t rfl rfl rfl) rfl rfl rfl ?_
  refine WL_is (X_move rfl rfl) rfl rfl rfl ?_
  refine WL_is (X_move rfl rfl) rfl rfl rfl ?_
  refine WL_is (X_eql_t rfl rfl rfl (by omega)) rfl rfl rfl ?_
  refine WL_is (X_pick_t rfl rfl rfl) rfl rfl rfl ?_
  refine WL_is (X_move rfl rfl) rfl rfl rfl ?_
  refine WL_is (X_move rfl rfl) rfl rfl rfl ?_
  refine WL_is (X_len rfl rfl rfl) rfl rfl rfl ?_
  refine WL_is (X_eql rfl rfl rfl) rfl rfl rfl ?_
  refine WL_is (X_pick_t rfl rfl rfl) rfl rfl rfl ?_
  refine WL_is (X_move rfl rfl) rfl rfl rfl ?_
  refine WL_is (X_move rfl rfl) rfl rfl rfl ?_
  refine WL_is (X_len_sl rfl rfl rfl (by assumption)) rfl rfl rfl ?_
  refine WL_is (X_eql_t rfl rfl rfl (by omega)) rfl rfl rfl ?_
  refine WL_is (X_pick_t rfl rfl rfl) rfl rfl rfl ?_
  refine WL_is (X_move rfl rfl) rfl rfl rfl ?_
  refine WL_is (X_move rfl rfl) rfl rfl rfl ?_
  (refine WL_index_sl rfl rfl rfl rfl rfl (by assumption) (by omega) (by omega) rfl rfl rfl ?_; intro p_ hp_)
  refine WL_is (X_load1_at rfl rfl (by assumption) rfl rfl) rfl rfl rfl ?_
  refine WL_is (X_eqS_c rfl rfl rfl (by assumption)) rfl rfl rfl ?_
  refine WL_is (X_pick_t rfl rfl rfl) rfl rfl rfl ?_
  refine WL_is (X_move rfl rfl) rfl rfl rfl ?_
  refine WL_is (X_move rfl rfl) rfl rfl rfl ?_
  refine WL_is (X_eql_t rfl rfl rfl (by omega)) rfl rfl rfl ?_
  refine WL_is (X_pick_t rfl rfl rfl) rfl rfl rfl ?_
  refine WL_is (X_move rfl rfl) rfl rfl rfl ?_
  refine WL_is (X_callv rfl rfl rfl Try.func12 rfl (by assumption)) rfl rfl rfl ?_
  refine WL_is (X_eql_t rfl rfl rfl (by omega)) rfl rfl rfl ?_
  refine WL_is (X_pick_t rfl rfl rfl) rfl rfl rfl ?_
  refine WL_is (X_move rfl rfl) rfl rfl rfl ?_
  refine WL_is (X_callv rfl rfl rfl Try.func12 rfl (by assumption)) rfl rfl rfl ?_
  refine WL_is (X_eql_t rfl rfl rfl (by omega)) rfl rfl rfl ?_
  refine WL_is (X_pick_t rfl rfl rfl) rfl rfl rfl ?_
  refine WL_is (X_assign rfl rfl) rfl rfl rfl ?_
  (repeat (first | refine WL_nil ?_ | refine Then_normal ?_ | refine W_ret ?_))
  refine Body_end rfl rfl rfl (SubR.none _) ?_
  rfl
end Go.Proofs.Ytakdjabamjgcfaa
