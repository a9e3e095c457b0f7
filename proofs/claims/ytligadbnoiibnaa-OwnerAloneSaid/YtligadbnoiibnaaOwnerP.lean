/- Who may turn attributes: the law on what is written, or given away. -/
import Derived.Test.YtligadbnoiibnaaOwnerO
namespace Go.Proofs.Ytligadbnoiibnaa
set_option maxRecDepth 4000
open Go Go.Par PH
def cleanO (a : Attr) : Bool := decide (bits .and .u8 a.bits 4 = 0) && (decide (bits .and .u8 a.bits 2 = 0) || decide (bits .and .u8 a.acc.cls 1 = 0))
theorem goes_bits {x : Int} (h : 0 ≤ x ∧ x ≤ 7) : ((0 ≤ bits .andNot .u8 x 4 ∧ bits .andNot .u8 x 4 ≤ 7) ∧ (0 ≤ bits .andNot .u8 (bits .andNot .u8 x 4) 2 ∧ bits .andNot .u8 (bits .andNot .u8 x 4) 2 ≤ 7)) ∧
    (bits .and .u8 (bits .andNot .u8 x 4) 4 = 0 ∧ bits .and .u8 (bits .andNot .u8 (bits .andNot .u8 x 4) 2) 4 = 0 ∧ bits .and .u8 (bits .andNot .u8 (bits .andNot .u8 x 4) 2) 2 = 0) ∧
    (bits .andNot .u8 (bits .andNot .u8 x 4) 4 = bits .andNot .u8 x 4 ∧ bits .andNot .u8 (bits .andNot .u8 (bits .andNot .u8 (bits .andNot .u8 x 4) 2) 4) 2 = bits .andNot .u8 (bits .andNot .u8 x 4) 2) := by
  obtain ⟨n, rfl⟩ := fin8 h
  revert n
  decide +kernel
theorem clean_goes {a : Attr} (hb : 0 ≤ a.bits ∧ a.bits ≤ 7) (hcls : a.acc.cls % 8 = a.acc.cls) : cleanO (goesO a) = true := by
  obtain ⟨-, ⟨h1, h2, h3⟩, -⟩ := goes_bits hb
  unfold cleanO goesO
  rw [hcls]
  by_cases k : bits .and .u8 a.acc.cls 1 = 0
  · rw [if_pos k]
    unfold Attr.wb
    dsimp only
    rw [decide_eq_true h1, decide_eq_true k]; simp
  · rw [if_neg k]
    unfold Attr.wb
    dsimp only
    rw [decide_eq_true h2, decide_eq_true h3]; rfl
theorem goes_ok {a : Attr} (hok : a.Ok) (hb : a.bits ≤ 7) : (goesO a).Ok ∧ (goesO a).bits ≤ 7 := by
  obtain ⟨⟨w1, w2⟩, -, -⟩ := goes_bits ⟨hok.bits.1, hb⟩
  unfold goesO
  split
  · exact ⟨Attr.wb_ok hok ⟨w1.1, by omega⟩, w1.2⟩
  · exact ⟨Attr.wb_ok hok ⟨w2.1, by omega⟩, w2.2⟩
theorem goes_twice {a : Attr} (hb : 0 ≤ a.bits ∧ a.bits ≤ 7) : goesO (goesO a) = goesO a := by
  obtain ⟨-, -, h4, h5⟩ := goes_bits hb
  have e : ∀ b, (a.wb b).acc = a.acc := fun _ => rfl
  unfold goesO
  by_cases k : bits .and .u8 (a.acc.cls % 8) 1 = 0
  · simp only [e, if_pos k]
    unfold Attr.wb
    dsimp only
    rw [h4]
  · simp only [e, if_neg k]
    unfold Attr.wb
    dsimp only
    rw [h5]
theorem wb_back (a : Attr) (b : Int) : (a.wb b).wb a.bits = a := rfl
theorem writtenO_back {c : Cred} {a : Attr} (h : mayO c a = true) : (writtenO c a).wb a.bits = a := by
  unfold writtenO
  rw [if_pos h]
  split
  · rfl
  · exact wb_back a _
theorem writtenO_ok {c : Cred} {a : Attr} (h : mayO c a = true) (hok : a.Ok) (hb : a.bits ≤ 7) : (writtenO c a).Ok := by
  unfold writtenO
  rw [if_pos h]
  split
  · exact hok
  · exact (goes_ok hok hb).1
theorem writtenO_twice {c : Cred} {a : Attr} (h : mayO c a = true) (hok : a.Ok) (hm : a.may = true) : writtenO c (writtenO c a) = writtenO c a := by
  have hb := Attr.bits7 hm
  unfold writtenO
  rw [if_pos h]
  by_cases hu : c.uid = 0
  · simp only [if_pos hu]; rw [if_pos h]
  · simp only [if_neg hu]
    have hl : decide (c.gs.length ≤ 4) = true := by
      unfold mayO at h
      simp only [Bool.and_eq_true] at h
      exact h.1
    have hg : (goesO a).may = true := by
      have := (goes_ok hok hb).2
      unfold goesO at this ⊢
      exact Attr.wb_may hm this
    have h2 : mayO c (goesO a) = true := by unfold mayO; rw [hl, hg]; rfl
    rw [if_pos h2, goes_twice ⟨hok.bits.1, hb⟩]
attribute [local irreducible] W WL Does Exec Body Then inBlk RG WR row obj pblk
attribute [local irreducible] bits
theorem clean_ref (h : PH) (a : Attr) (v : Value) (hv : AttrV h v a) : Does Try.prog 32 [v] [] h (Ret fun r _ _ => r = .bool (cleanO a)) := by
  obtain ⟨s1, s2, s3, s4, s5, t1, t2, t3, t4, t5, rfl⟩ := hv.shape
  have c1 := class_ref h a.acc (.slice s1 a.acc.us.length t1) (.slice s2 a.acc.gs.length t2)
  unfold aclV at c1
  unfold attrS attrV cleanO
  generalize a.acc.cls = k at *
  refine Does_of_W Try.func32 rfl (n := 20) rfl rfl (by simp only [argE] <;> rfl) ?_
  (repeat (first | refine W_seq ?_))
  refine W_region rfl ?_
  (refine WL_box rfl rfl rfl rfl rfl rfl ?_; intro b_)
  refine WL_is (X_assign rfl rfl) rfl rfl rfl ?_
  (repeat (first | refine WL_nil ?_ | refine Then_normal ?_ | refine W_seq ?_))
  by_cases k1 : bits .and .u8 a.bits 4 = 0
  · rw [decide_eq_true k1]
    by_cases k2 : bits .and .u8 a.bits 2 = 0
    · rw [decide_eq_true k2]
      skip
      refine W_region rfl ?_
      refine WL_is (X_fieldAddr rfl rfl rfl (by simp only [Nat.zero_add] <;> rfl)) rfl rfl rfl ?_
      refine WL_is (X_load1 rfl rfl (by exact idx0) rfl rfl) rfl rfl rfl ?_
      refine WL_is (X_and rfl rfl rfl) rfl rfl rfl ?_
      refine WL_is (X_eql_t rfl rfl rfl (by omega)) rfl rfl rfl ?_
      refine WL_is (X_move rfl rfl) rfl rfl rfl ?_
      refine WL_is (X_fieldAddr rfl rfl rfl (by simp only [Nat.zero_add] <;> rfl)) rfl rfl rfl ?_
      refine WL_is (X_load1 rfl rfl (by exact idx0) rfl rfl) rfl rfl rfl ?_
      refine WL_is (X_and rfl rfl rfl) rfl rfl rfl ?_
      refine WL_is (X_eql_t rfl rfl rfl (by omega)) rfl rfl rfl ?_
      refine WL_is (X_move rfl rfl) rfl rfl rfl ?_
      refine WL_off rfl rfl rfl ?_
      refine WL_off rfl rfl rfl ?_
      refine WL_off rfl rfl rfl ?_
      refine WL_off rfl rfl rfl ?_
      refine WL_off rfl rfl rfl ?_
      refine WL_is (X_pick_t rfl rfl rfl) rfl rfl rfl ?_
      refine WL_is (X_pick_t rfl rfl rfl) rfl rfl rfl ?_
      refine WL_is (X_assign rfl rfl) rfl rfl rfl ?_
      (repeat (first | refine WL_nil ?_ | refine Then_normal ?_ | refine W_ret ?_))
      refine Body_end rfl rfl rfl (SubR.none _) ?_
      rfl
    · rw [decide_eq_false k2]
      by_cases k3 : bits .and .u8 k 1 = 0
      · rw [decide_eq_true k3]
        skip
        refine W_region rfl ?_
        refine WL_is (X_fieldAddr rfl rfl rfl (by simp only [Nat.zero_add] <;> rfl)) rfl rfl rfl ?_
        refine WL_is (X_load1 rfl rfl (by exact idx0) rfl rfl) rfl rfl rfl ?_
        refine WL_is (X_and rfl rfl rfl) rfl rfl rfl ?_
        refine WL_is (X_eql_t rfl rfl rfl (by omega)) rfl rfl rfl ?_
        refine WL_is (X_move rfl rfl) rfl rfl rfl ?_
        refine WL_is (X_fieldAddr rfl rfl rfl (by simp only [Nat.zero_add] <;> rfl)) rfl rfl rfl ?_
        refine WL_is (X_load1 rfl rfl (by exact idx0) rfl rfl) rfl rfl rfl ?_
        refine WL_is (X_and rfl rfl rfl) rfl rfl rfl ?_
        refine WL_is (X_eql_f rfl rfl rfl (by omega)) rfl rfl rfl ?_
        refine WL_is (X_move rfl rfl) rfl rfl rfl ?_
        refine WL_is (X_fieldAddr rfl rfl rfl (by simp only [Nat.zero_add] <;> rfl)) rfl rfl rfl ?_
        refine WL_is (X_loadA rfl rfl (by exact idx0) rfl rfl rfl) rfl rfl rfl ?_
        refine WL_is (X_callv rfl rfl rfl Try.func56 rfl (by assumption)) rfl rfl rfl ?_
        refine WL_is (X_and rfl rfl rfl) rfl rfl rfl ?_
        refine WL_is (X_eql_t rfl rfl rfl (by omega)) rfl rfl rfl ?_
        refine WL_is (X_pick_f rfl rfl rfl) rfl rfl rfl ?_
        refine WL_is (X_pick_t rfl rfl rfl) rfl rfl rfl ?_
        refine WL_is (X_assign rfl rfl) rfl rfl rfl ?_
        (repeat (first | refine WL_nil ?_ | refine Then_normal ?_ | refine W_ret ?_))
        refine Body_end rfl rfl rfl (SubR.none _) ?_
        rfl
      · rw [decide_eq_false k3]
        skip
        refine W_region rfl ?_
        refine WL_is (X_fieldAddr rfl rfl rfl (by simp only [Nat.zero_add] <;> rfl)) rfl rfl rfl ?_
        refine WL_is (X_load1 rfl rfl (by exact idx0) rfl rfl) rfl rfl rfl ?_
        refine WL_is (X_and rfl rfl rfl) rfl rfl rfl ?_
        refine WL_is (X_eql_t rfl rfl rfl (by omega)) rfl rfl rfl ?_
        refine WL_is (X_move rfl rfl) rfl rfl rfl ?_
        refine WL_is (X_fieldAddr rfl rfl rfl (by simp only [Nat.zero_add] <;> rfl)) rfl rfl rfl ?_
        refine WL_is (X_load1 rfl rfl (by exact idx0) rfl rfl) rfl rfl rfl ?_
        refine WL_is (X_and rfl rfl rfl) rfl rfl rfl ?_
        refine WL_is (X_eql_f rfl rfl rfl (by omega)) rfl rfl rfl ?_
        refine WL_is (X_move rfl rfl) rfl rfl rfl ?_
        refine WL_is (X_fieldAddr rfl rfl rfl (by simp only [Nat.zero_add] <;> rfl)) rfl rfl rfl ?_
        refine WL_is (X_loadA rfl rfl (by exact idx0) rfl rfl rfl) rfl rfl rfl ?_
        refine WL_is (X_callv rfl rfl rfl Try.func56 rfl (by assumption)) rfl rfl rfl ?_
        refine WL_is (X_and rfl rfl rfl) rfl rfl rfl ?_
        refine WL_is (X_eql_f rfl rfl rfl (by omega)) rfl rfl rfl ?_
        refine WL_is (X_pick_f rfl rfl rfl) rfl rfl rfl ?_
        refine WL_is (X_pick_t rfl rfl rfl) rfl rfl rfl ?_
        refine WL_is (X_assign rfl rfl) rfl rfl rfl ?_
        (repeat (first | refine WL_nil ?_ | refine Then_normal ?_ | refine W_ret ?_))
        refine Body_end rfl rfl rfl (SubR.none _) ?_
        rfl
  · rw [decide_eq_false k1]
    skip
    refine W_region rfl ?_
    refine WL_is (X_fieldAddr rfl rfl rfl (by simp only [Nat.zero_add] <;> rfl)) rfl rfl rfl ?_
    refine WL_is (X_load1 rfl rfl (by exact idx0) rfl rfl) rfl rfl rfl ?_
    refine WL_is (X_and rfl rfl rfl) rfl rfl rfl ?_
    refine WL_is (X_eql_f rfl rfl rfl (by omega)) rfl rfl rfl ?_
    refine WL_is (X_move rfl rfl) rfl rfl rfl ?_
    refine WL_off rfl rfl rfl ?_
    refine WL_off rfl rfl rfl ?_
    refine WL_off rfl rfl rfl ?_
    refine WL_off rfl rfl rfl ?_
    refine WL_off rfl rfl rfl ?_
    refine WL_off rfl rfl rfl ?_
    refine WL_off rfl rfl rfl ?_
    refine WL_off rfl rfl rfl ?_
    refine WL_off rfl rfl rfl ?_
    refine WL_off rfl rfl rfl ?_
    refine WL_off rfl rfl rfl ?_
    refine WL_is (X_pick_f rfl rfl rfl) rfl rfl rfl ?_
    refine WL_is (X_assign rfl rfl) rfl rfl rfl ?_
    (repeat (first | refine WL_nil ?_ | refine Then_normal ?_ | refine W_ret ?_))
    refine Body_end rfl rfl rfl (SubR.none _) ?_
    rfl
end Go.Proofs.Ytligadbnoiibnaa
