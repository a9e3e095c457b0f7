/- Who may turn attributes: who may, who owns, what is lost, what goes. -/
import Derived.Test.YtligadbnoiibnaaOwnerA
import Derived.Test.YtligadbnoiibnaaAttrP
import Derived.Test.YtligadbnoiibnaaCredA
namespace Go.Proofs.Ytligadbnoiibnaa
set_option maxRecDepth 4000
open Go Go.Par PH
def mayO (c : Cred) (a : Attr) : Bool := decide (c.gs.length ≤ 4) && a.may
def ownsO (c : Cred) (a : Attr) : Bool := decide (c.uid = 0) || decide (c.uid = a.uid)
def losesO (c : Cred) (a : Attr) (kind : Int) : Bool := decide (kind = 1) && decide (c.uid ≠ 0) && !c.inB a.gid
def Attr.wb (a : Attr) (b : Int) : Attr := { a with bits := b }
def loseO (c : Cred) (a : Attr) (kind : Int) : Attr := a.wb (if losesO c a kind then bits .andNot .u8 a.bits 2 else a.bits)
def goesO (a : Attr) : Attr := a.wb (if bits .and .u8 (a.acc.cls % 8) 1 = 0 then bits .andNot .u8 a.bits 4 else bits .andNot .u8 (bits .andNot .u8 a.bits 4) 2)
theorem Acl.cls_7 {a : Acl} (hok : a.Ok) (h : a.may = true) : a.cls % 8 = a.cls := by
  have h1 := hok.g
  have h2 := hok.m
  unfold u8 at h1 h2
  have h : a.p7 = true := by
    unfold Acl.may at h
    simp only [Bool.and_eq_true] at h
    exact h.1.1.1
  simp [Acl.p7, allB] at h
  unfold Acl.cls
  split <;> omega
theorem Attr.may_acc {a : Attr} (h : a.may = true) : a.acc.may = true := by
  rw [Attr.may_eq] at h
  simp only [Bool.and_eq_true] at h
  exact h.1.1.1.2
attribute [local irreducible] W WL Does Exec Body Then inBlk RG WR row obj pblk
attribute [local irreducible] bits
theorem may13_fn (h : PH) (c : Cred) (cv : Value) (a : Attr) (v : Value) (hc : CredV h cv c) (hv : AttrV h v a) (hs : a.small) (hok : a.Ok) : Does Try.prog 38 [cv, v] [] h (Ret fun r _ _ => r = .bool (mayO c a)) := by
  have c1 := credCheck_fn h c cv hc
  have c2 := attrCheck_fn h a v hv hs hok
  obtain ⟨x, rfl, hx⟩ := hc
  obtain ⟨xa, xc, rfl⟩ := hx.shape
  obtain ⟨_, _, _, _, _, _, _, _, _, _, rfl⟩ := hv.shape
  unfold credV at c1
  unfold attrS attrV at c2
  unfold credV attrS attrV mayO
  refine Does_of_W Try.func38 rfl (n := 13) rfl rfl (by simp only [argE, Nat.reduceAdd] <;> rfl) ?_
  by_cases k1 : c.gs.length ≤ 4
  · rw [if_pos k1] at c1
    rw [decide_eq_true k1]
    cases k2 : a.may with
    | true =>
      rw [k2, if_pos rfl] at c2
      (repeat (first | refine W_seq ?_))
      skip
      refine W_region rfl ?_
      (refine WL_box rfl rfl rfl rfl rfl rfl ?_; intro b_)
      (refine WL_box rfl rfl rfl rfl rfl rfl ?_; intro b_)
      refine WL_is (X_assign rfl rfl) rfl rfl rfl ?_
      (repeat (first | refine WL_nil ?_ | refine Then_normal ?_ | refine W_seq ?_))
      skip
      refine W_region rfl ?_
      refine WL_is (X_loadA rfl rfl (by exact idx1) rfl rfl rfl) rfl rfl rfl ?_
      refine WL_is (X_callv rfl rfl rfl Try.func26 rfl (by assumption)) rfl rfl rfl ?_
      refine WL_is (X_eql_t rfl rfl rfl (by omega)) rfl rfl rfl ?_
      refine WL_is (X_move rfl rfl) rfl rfl rfl ?_
      refine WL_is (X_loadA rfl rfl (by exact idx0) rfl rfl rfl) rfl rfl rfl ?_
      refine WL_is (X_callv rfl rfl rfl Try.func20 rfl (by assumption)) rfl rfl rfl ?_
      refine WL_is (X_eql_t rfl rfl rfl (by omega)) rfl rfl rfl ?_
      refine WL_is (X_pick_t rfl rfl rfl) rfl rfl rfl ?_
      refine WL_is (X_assign rfl rfl) rfl rfl rfl ?_
      (repeat (first | refine WL_nil ?_ | refine Then_normal ?_ | refine W_ret ?_))
      refine Body_end rfl rfl rfl (SubR.none _) ?_
      rfl
    | false =>
      rw [k2, if_neg (by decide)] at c2
      (repeat (first | refine W_seq ?_))
      skip
      refine W_region rfl ?_
      (refine WL_box rfl rfl rfl rfl rfl rfl ?_; intro b_)
      (refine WL_box rfl rfl rfl rfl rfl rfl ?_; intro b_)
      refine WL_is (X_assign rfl rfl) rfl rfl rfl ?_
      (repeat (first | refine WL_nil ?_ | refine Then_normal ?_ | refine W_seq ?_))
      skip
      refine W_region rfl ?_
      refine WL_is (X_loadA rfl rfl (by exact idx1) rfl rfl rfl) rfl rfl rfl ?_
      refine WL_is (X_callv rfl rfl rfl Try.func26 rfl (by assumption)) rfl rfl rfl ?_
      refine WL_is (X_eql_t rfl rfl rfl (by omega)) rfl rfl rfl ?_
      refine WL_is (X_move rfl rfl) rfl rfl rfl ?_
      refine WL_is (X_loadA rfl rfl (by exact idx0) rfl rfl rfl) rfl rfl rfl ?_
      refine WL_is (X_callv rfl rfl rfl Try.func20 rfl (by assumption)) rfl rfl rfl ?_
      refine WL_is (X_eql_f rfl rfl rfl (by omega)) rfl rfl rfl ?_
      refine WL_is (X_pick_t rfl rfl rfl) rfl rfl rfl ?_
      refine WL_is (X_assign rfl rfl) rfl rfl rfl ?_
      (repeat (first | refine WL_nil ?_ | refine Then_normal ?_ | refine W_ret ?_))
      refine Body_end rfl rfl rfl (SubR.none _) ?_
      rfl
  · rw [if_neg k1] at c1
    rw [decide_eq_false k1]
    (repeat (first | refine W_seq ?_))
    skip
    refine W_region rfl ?_
    (refine WL_box rfl rfl rfl rfl rfl rfl ?_; intro b_)
    (refine WL_box rfl rfl rfl rfl rfl rfl ?_; intro b_)
    refine WL_is (X_assign rfl rfl) rfl rfl rfl ?_
    (repeat (first | refine WL_nil ?_ | refine Then_normal ?_ | refine W_seq ?_))
    skip
    refine W_region rfl ?_
    refine WL_is (X_loadA rfl rfl (by exact idx1) rfl rfl rfl) rfl rfl rfl ?_
    refine WL_is (X_callv rfl rfl rfl Try.func26 rfl (by assumption)) rfl rfl rfl ?_
    refine WL_is (X_eql_f rfl rfl rfl (by omega)) rfl rfl rfl ?_
    refine WL_is (X_move rfl rfl) rfl rfl rfl ?_
    refine WL_off rfl rfl rfl ?_
    refine WL_off rfl rfl rfl ?_
    refine WL_off rfl rfl rfl ?_
    refine WL_is (X_pick_f rfl rfl rfl) rfl rfl rfl ?_
    refine WL_is (X_assign rfl rfl) rfl rfl rfl ?_
    (repeat (first | refine WL_nil ?_ | refine Then_normal ?_ | refine W_ret ?_))
    refine Body_end rfl rfl rfl (SubR.none _) ?_
    rfl
theorem may13_ref (h : PH) (c : Cred) (cv : Value) (a : Attr) (v : Value) (hc : CredV h cv c) (hv : AttrV h v a) (hs : a.small) (hok : a.Ok) : Does Try.prog 44 [cv, v] [] h (Ret fun r _ _ => r = .bool (mayO c a)) := by
  have c2 := attrMay_ref h a v hv hs hok
  obtain ⟨x, rfl, hx⟩ := hc
  obtain ⟨xa, xc, rfl⟩ := hx.shape
  obtain ⟨_, _, _, _, _, _, _, _, _, _, rfl⟩ := hv.shape
  unfold attrS attrV at c2
  unfold credV attrS attrV mayO
  refine Does_of_W Try.func44 rfl (n := 13) rfl rfl (by simp only [argE, Nat.reduceAdd] <;> rfl) ?_
  by_cases k1 : c.gs.length ≤ 4
  · rw [decide_eq_true k1]
    (repeat (first | refine W_seq ?_))
    skip
    refine W_region rfl ?_
    (refine WL_box rfl rfl rfl rfl rfl rfl ?_; intro b_)
    (refine WL_box rfl rfl rfl rfl rfl rfl ?_; intro b_)
    refine WL_is (X_assign rfl rfl) rfl rfl rfl ?_
    (repeat (first | refine WL_nil ?_ | refine Then_normal ?_ | refine W_seq ?_))
    skip
    refine W_region rfl ?_
    refine WL_is (X_fieldAddr rfl rfl rfl (by simp only [Nat.zero_add] <;> rfl)) rfl rfl rfl ?_
    refine WL_is (X_load1 rfl rfl (by exact idx1) rfl rfl) rfl rfl rfl ?_
    refine WL_is (X_len_sl rfl rfl rfl (by assumption)) rfl rfl rfl ?_
    refine WL_is (X_leq_t rfl rfl rfl (by omega)) rfl rfl rfl ?_
    refine WL_is (X_move rfl rfl) rfl rfl rfl ?_
    refine WL_is (X_loadA rfl rfl (by exact idx0) rfl rfl rfl) rfl rfl rfl ?_
    refine WL_is (X_callv rfl rfl rfl Try.func65 rfl (by assumption)) rfl rfl rfl ?_
    refine WL_is (X_pick_t rfl rfl rfl) rfl rfl rfl ?_
    refine WL_is (X_assign rfl rfl) rfl rfl rfl ?_
    (repeat (first | refine WL_nil ?_ | refine Then_normal ?_ | refine W_ret ?_))
    refine Body_end rfl rfl rfl (SubR.none _) ?_
    simp
  · rw [decide_eq_false k1]
    (repeat (first | refine W_seq ?_))
    skip
    refine W_region rfl ?_
    (refine WL_box rfl rfl rfl rfl rfl rfl ?_; intro b_)
    (refine WL_box rfl rfl rfl rfl rfl rfl ?_; intro b_)
    refine WL_is (X_assign rfl rfl) rfl rfl rfl ?_
    (repeat (first | refine WL_nil ?_ | refine Then_normal ?_ | refine W_seq ?_))
    skip
    refine W_region rfl ?_
    refine WL_is (X_fieldAddr rfl rfl rfl (by simp only [Nat.zero_add] <;> rfl)) rfl rfl rfl ?_
    refine WL_is (X_load1 rfl rfl (by exact idx1) rfl rfl) rfl rfl rfl ?_
    refine WL_is (X_len_sl rfl rfl rfl (by assumption)) rfl rfl rfl ?_
    refine WL_is (X_leq_f rfl rfl rfl (by omega)) rfl rfl rfl ?_
    refine WL_is (X_move rfl rfl) rfl rfl rfl ?_
    refine WL_off rfl rfl rfl ?_
    refine WL_off rfl rfl rfl ?_
    refine WL_is (X_pick_f rfl rfl rfl) rfl rfl rfl ?_
    refine WL_is (X_assign rfl rfl) rfl rfl rfl ?_
    (repeat (first | refine WL_nil ?_ | refine Then_normal ?_ | refine W_ret ?_))
    refine Body_end rfl rfl rfl (SubR.none _) ?_
    simp
theorem owns_fn (h : PH) (c : Cred) (cv : Value) (a : Attr) (v : Value) (hc : CredV h cv c) (hv : AttrV h v a) : Does Try.prog 39 [cv, v] [] h (Ret fun r _ _ => r = .bool (ownsO c a)) := by
  obtain ⟨x, rfl, hx⟩ := hc
  obtain ⟨xa, xc, rfl⟩ := hx.shape
  obtain ⟨_, _, _, _, _, _, _, _, _, _, rfl⟩ := hv.shape
  unfold credV attrS attrV ownsO
  refine Does_of_W Try.func39 rfl (n := 15) rfl rfl (by simp only [argE, Nat.reduceAdd] <;> rfl) ?_
  by_cases k1 : c.uid = 0
  · rw [decide_eq_true k1]
    (repeat (first | refine W_seq ?_))
    skip
    refine W_region rfl ?_
    (refine WL_box rfl rfl rfl rfl rfl rfl ?_; intro b_)
    (refine WL_box rfl rfl rfl rfl rfl rfl ?_; intro b_)
    refine WL_is (X_assign rfl rfl) rfl rfl rfl ?_
    (repeat (first | refine WL_nil ?_ | refine Then_normal ?_ | refine W_seq ?_))
    skip
    refine W_region rfl ?_
    refine WL_is (X_fieldAddr rfl rfl rfl (by simp only [Nat.zero_add] <;> rfl)) rfl rfl rfl ?_
    refine WL_is (X_load1 rfl rfl (by exact idx1) rfl rfl) rfl rfl rfl ?_
    refine WL_is (X_eql_t rfl rfl rfl (by omega)) rfl rfl rfl ?_
    refine WL_is (X_move rfl rfl) rfl rfl rfl ?_
    refine WL_off rfl rfl rfl ?_
    refine WL_off rfl rfl rfl ?_
    refine WL_off rfl rfl rfl ?_
    refine WL_off rfl rfl rfl ?_
    refine WL_off rfl rfl rfl ?_
    refine WL_is (X_pick_t rfl rfl rfl) rfl rfl rfl ?_
    refine WL_is (X_assign rfl rfl) rfl rfl rfl ?_
    (repeat (first | refine WL_nil ?_ | refine Then_normal ?_ | refine W_ret ?_))
    refine Body_end rfl rfl rfl (SubR.none _) ?_
    rfl
  · rw [decide_eq_false k1]
    by_cases k2 : c.uid = a.uid
    · rw [decide_eq_true k2]
      (repeat (first | refine W_seq ?_))
      skip
      refine W_region rfl ?_
      (refine WL_box rfl rfl rfl rfl rfl rfl ?_; intro b_)
      (refine WL_box rfl rfl rfl rfl rfl rfl ?_; intro b_)
      refine WL_is (X_assign rfl rfl) rfl rfl rfl ?_
      (repeat (first | refine WL_nil ?_ | refine Then_normal ?_ | refine W_seq ?_))
      skip
      refine W_region rfl ?_
      refine WL_is (X_fieldAddr rfl rfl rfl (by simp only [Nat.zero_add] <;> rfl)) rfl rfl rfl ?_
      refine WL_is (X_load1 rfl rfl (by exact idx1) rfl rfl) rfl rfl rfl ?_
      refine WL_is (X_eql_f rfl rfl rfl (by omega)) rfl rfl rfl ?_
      refine WL_is (X_move rfl rfl) rfl rfl rfl ?_
      refine WL_is (X_fieldAddr rfl rfl rfl (by simp only [Nat.zero_add] <;> rfl)) rfl rfl rfl ?_
      refine WL_is (X_load1 rfl rfl (by exact idx1) rfl rfl) rfl rfl rfl ?_
      refine WL_is (X_fieldAddr rfl rfl rfl (by simp only [Nat.zero_add] <;> rfl)) rfl rfl rfl ?_
      refine WL_is (X_load1 rfl rfl (by exact idx0) rfl rfl) rfl rfl rfl ?_
      refine WL_is (X_eql_t rfl rfl rfl (by omega)) rfl rfl rfl ?_
      refine WL_is (X_pick_f rfl rfl rfl) rfl rfl rfl ?_
      refine WL_is (X_assign rfl rfl) rfl rfl rfl ?_
      (repeat (first | refine WL_nil ?_ | refine Then_normal ?_ | refine W_ret ?_))
      refine Body_end rfl rfl rfl (SubR.none _) ?_
      rfl
    · rw [decide_eq_false k2]
      (repeat (first | refine W_seq ?_))
      skip
      refine W_region rfl ?_
      (refine WL_box rfl rfl rfl rfl rfl rfl ?_; intro b_)
      (refine WL_box rfl rfl rfl rfl rfl rfl ?_; intro b_)
      refine WL_is (X_assign rfl rfl) rfl rfl rfl ?_
      (repeat (first | refine WL_nil ?_ | refine Then_normal ?_ | refine W_seq ?_))
      skip
      refine W_region rfl ?_
      refine WL_is (X_fieldAddr rfl rfl rfl (by simp only [Nat.zero_add] <;> rfl)) rfl rfl rfl ?_
      refine WL_is (X_load1 rfl rfl (by exact idx1) rfl rfl) rfl rfl rfl ?_
      refine WL_is (X_eql_f rfl rfl rfl (by omega)) rfl rfl rfl ?_
      refine WL_is (X_move rfl rfl) rfl rfl rfl ?_
      refine WL_is (X_fieldAddr rfl rfl rfl (by simp only [Nat.zero_add] <;> rfl)) rfl rfl rfl ?_
      refine WL_is (X_load1 rfl rfl (by exact idx1) rfl rfl) rfl rfl rfl ?_
      refine WL_is (X_fieldAddr rfl rfl rfl (by simp only [Nat.zero_add] <;> rfl)) rfl rfl rfl ?_
      refine WL_is (X_load1 rfl rfl (by exact idx0) rfl rfl) rfl rfl rfl ?_
      refine WL_is (X_eql_f rfl rfl rfl (by omega)) rfl rfl rfl ?_
      refine WL_is (X_pick_f rfl rfl rfl) rfl rfl rfl ?_
      refine WL_is (X_assign rfl rfl) rfl rfl rfl ?_
      (repeat (first | refine WL_nil ?_ | refine Then_normal ?_ | refine W_ret ?_))
      refine Body_end rfl rfl rfl (SubR.none _) ?_
      rfl
theorem owns13_ref (h : PH) (c : Cred) (cv : Value) (a : Attr) (v : Value) (hc : CredV h cv c) (hv : AttrV h v a) (hs : a.small) (hok : a.Ok) : Does Try.prog 29 [cv, v] [] h (Ret fun r _ _ => r = .bool (mayO c a && ownsO c a)) := by
  have c1 := may13_ref h c cv a v hc hv hs hok
  obtain ⟨x, rfl, hx⟩ := hc
  obtain ⟨xa, xc, rfl⟩ := hx.shape
  obtain ⟨_, _, _, _, _, _, _, _, _, _, rfl⟩ := hv.shape
  unfold credV attrS attrV at c1
  unfold credV attrS attrV ownsO
  generalize mayO c a = m at *
  refine Does_of_W Try.func29 rfl (n := 20) rfl rfl (by simp only [argE, Nat.reduceAdd] <;> rfl) ?_
  cases m with
  | false =>
    (repeat (first | refine W_seq ?_))
    skip
    refine W_region rfl ?_
    (refine WL_box rfl rfl rfl rfl rfl rfl ?_; intro b_)
    (refine WL_box rfl rfl rfl rfl rfl rfl ?_; intro b_)
    refine WL_is (X_assign rfl rfl) rfl rfl rfl ?_
    (repeat (first | refine WL_nil ?_ | refine Then_normal ?_ | refine W_seq ?_))
    skip
    refine W_region rfl ?_
    refine WL_is (X_loadA rfl rfl (by exact idx1) rfl rfl rfl) rfl rfl rfl ?_
    refine WL_is (X_loadA rfl rfl (by exact idx0) rfl rfl rfl) rfl rfl rfl ?_
    refine WL_is (X_callv rfl rfl rfl Try.func44 rfl (by assumption)) rfl rfl rfl ?_
    refine WL_is (X_move rfl rfl) rfl rfl rfl ?_
    refine WL_off rfl rfl rfl ?_
    refine WL_off rfl rfl rfl ?_
    refine WL_off rfl rfl rfl ?_
    refine WL_off rfl rfl rfl ?_
    refine WL_off rfl rfl rfl ?_
    refine WL_off rfl rfl rfl ?_
    refine WL_off rfl rfl rfl ?_
    refine WL_off rfl rfl rfl ?_
    refine WL_off rfl rfl rfl ?_
    refine WL_off rfl rfl rfl ?_
    refine WL_is (X_pick_f rfl rfl rfl) rfl rfl rfl ?_
    refine WL_is (X_assign rfl rfl) rfl rfl rfl ?_
    (repeat (first | refine WL_nil ?_ | refine Then_normal ?_ | refine W_ret ?_))
    refine Body_end rfl rfl rfl (SubR.none _) ?_
    rfl
  | true =>
    by_cases k1 : c.uid = 0
    · rw [decide_eq_true k1]
      (repeat (first | refine W_seq ?_))
      skip
      refine W_region rfl ?_
      (refine WL_box rfl rfl rfl rfl rfl rfl ?_; intro b_)
      (refine WL_box rfl rfl rfl rfl rfl rfl ?_; intro b_)
      refine WL_is (X_assign rfl rfl) rfl rfl rfl ?_
      (repeat (first | refine WL_nil ?_ | refine Then_normal ?_ | refine W_seq ?_))
      skip
      refine W_region rfl ?_
      refine WL_is (X_loadA rfl rfl (by exact idx1) rfl rfl rfl) rfl rfl rfl ?_
      refine WL_is (X_loadA rfl rfl (by exact idx0) rfl rfl rfl) rfl rfl rfl ?_
      refine WL_is (X_callv rfl rfl rfl Try.func44 rfl (by assumption)) rfl rfl rfl ?_
      refine WL_is (X_move rfl rfl) rfl rfl rfl ?_
      refine WL_is (X_fieldAddr rfl rfl rfl (by simp only [Nat.zero_add] <;> rfl)) rfl rfl rfl ?_
      refine WL_is (X_load1 rfl rfl (by exact idx1) rfl rfl) rfl rfl rfl ?_
      refine WL_is (X_eql_t rfl rfl rfl (by omega)) rfl rfl rfl ?_
      refine WL_is (X_move rfl rfl) rfl rfl rfl ?_
      refine WL_off rfl rfl rfl ?_
      refine WL_off rfl rfl rfl ?_
      refine WL_off rfl rfl rfl ?_
      refine WL_off rfl rfl rfl ?_
      refine WL_off rfl rfl rfl ?_
      refine WL_is (X_pick_t rfl rfl rfl) rfl rfl rfl ?_
      refine WL_is (X_pick_t rfl rfl rfl) rfl rfl rfl ?_
      refine WL_is (X_assign rfl rfl) rfl rfl rfl ?_
      (repeat (first | refine WL_nil ?_ | refine Then_normal ?_ | refine W_ret ?_))
      refine Body_end rfl rfl rfl (SubR.none _) ?_
      rfl
    · rw [decide_eq_false k1]
      by_cases k2 : c.uid = a.uid
      · rw [decide_eq_true k2]
        (repeat (first | refine W_seq ?_))
        skip
        refine W_region rfl ?_
        (refine WL_box rfl rfl rfl rfl rfl rfl ?_; intro b_)
        (refine WL_box rfl rfl rfl rfl rfl rfl ?_; intro b_)
        refine WL_is (X_assign rfl rfl) rfl rfl rfl ?_
        (repeat (first | refine WL_nil ?_ | refine Then_normal ?_ | refine W_seq ?_))
        skip
        refine W_region rfl ?_
        refine WL_is (X_loadA rfl rfl (by exact idx1) rfl rfl rfl) rfl rfl rfl ?_
        refine WL_is (X_loadA rfl rfl (by exact idx0) rfl rfl rfl) rfl rfl rfl ?_
        refine WL_is (X_callv rfl rfl rfl Try.func44 rfl (by assumption)) rfl rfl rfl ?_
        refine WL_is (X_move rfl rfl) rfl rfl rfl ?_
        refine WL_is (X_fieldAddr rfl rfl rfl (by simp only [Nat.zero_add] <;> rfl)) rfl rfl rfl ?_
        refine WL_is (X_load1 rfl rfl (by exact idx1) rfl rfl) rfl rfl rfl ?_
        refine WL_is (X_eql_f rfl rfl rfl (by omega)) rfl rfl rfl ?_
        refine WL_is (X_move rfl rfl) rfl rfl rfl ?_
        refine WL_is (X_fieldAddr rfl rfl rfl (by simp only [Nat.zero_add] <;> rfl)) rfl rfl rfl ?_
        refine WL_is (X_load1 rfl rfl (by exact idx1) rfl rfl) rfl rfl rfl ?_
        refine WL_is (X_fieldAddr rfl rfl rfl (by simp only [Nat.zero_add] <;> rfl)) rfl rfl rfl ?_
        refine WL_is (X_load1 rfl rfl (by exact idx0) rfl rfl) rfl rfl rfl ?_
        refine WL_is (X_eql_t rfl rfl rfl (by omega)) rfl rfl rfl ?_
        refine WL_is (X_pick_f rfl rfl rfl) rfl rfl rfl ?_
        refine WL_is (X_pick_t rfl rfl rfl) rfl rfl rfl ?_
        refine WL_is (X_assign rfl rfl) rfl rfl rfl ?_
        (repeat (first | refine WL_nil ?_ | refine Then_normal ?_ | refine W_ret ?_))
        refine Body_end rfl rfl rfl (SubR.none _) ?_
        rfl
      · rw [decide_eq_false k2]
        (repeat (first | refine W_seq ?_))
        skip
        refine W_region rfl ?_
        (refine WL_box rfl rfl rfl rfl rfl rfl ?_; intro b_)
        (refine WL_box rfl rfl rfl rfl rfl rfl ?_; intro b_)
        refine WL_is (X_assign rfl rfl) rfl rfl rfl ?_
        (repeat (first | refine WL_nil ?_ | refine Then_normal ?_ | refine W_seq ?_))
        skip
        refine W_region rfl ?_
        refine WL_is (X_loadA rfl rfl (by exact idx1) rfl rfl rfl) rfl rfl rfl ?_
        refine WL_is (X_loadA rfl rfl (by exact idx0) rfl rfl rfl) rfl rfl rfl ?_
        refine WL_is (X_callv rfl rfl rfl Try.func44 rfl (by assumption)) rfl rfl rfl ?_
        refine WL_is (X_move rfl rfl) rfl rfl rfl ?_
        refine WL_is (X_fieldAddr rfl rfl rfl (by simp only [Nat.zero_add] <;> rfl)) rfl rfl rfl ?_
        refine WL_is (X_load1 rfl rfl (by exact idx1) rfl rfl) rfl rfl rfl ?_
        refine WL_is (X_eql_f rfl rfl rfl (by omega)) rfl rfl rfl ?_
        refine WL_is (X_move rfl rfl) rfl rfl rfl ?_
        refine WL_is (X_fieldAddr rfl rfl rfl (by simp only [Nat.zero_add] <;> rfl)) rfl rfl rfl ?_
        refine WL_is (X_load1 rfl rfl (by exact idx1) rfl rfl) rfl rfl rfl ?_
        refine WL_is (X_fieldAddr rfl rfl rfl (by simp only [Nat.zero_add] <;> rfl)) rfl rfl rfl ?_
        refine WL_is (X_load1 rfl rfl (by exact idx0) rfl rfl) rfl rfl rfl ?_
        refine WL_is (X_eql_f rfl rfl rfl (by omega)) rfl rfl rfl ?_
        refine WL_is (X_pick_f rfl rfl rfl) rfl rfl rfl ?_
        refine WL_is (X_pick_t rfl rfl rfl) rfl rfl rfl ?_
        refine WL_is (X_assign rfl rfl) rfl rfl rfl ?_
        (repeat (first | refine WL_nil ?_ | refine Then_normal ?_ | refine W_ret ?_))
        refine Body_end rfl rfl rfl (SubR.none _) ?_
        rfl
theorem class13_fn (h : PH) (a : Acl) (u g : Value) (hok : a.Ok) : Does Try.prog 71 [aclV a u g] [] h (Ret fun r _ _ => r = .int .u8 (a.cls % 8)) := by
  have c1 := bits_fn h a u g hok
  have hb : 0 ≤ a.bits ∧ a.bits ≤ 511 := by unfold Acl.bits; omega
  have he : a.bits / 8 % 8 = a.cls % 8 := by unfold Acl.bits; omega
  rw [← he]
  unfold aclV at c1 ⊢
  generalize a.bits = b at *
  refine Does_of_W Try.func71 rfl (n := 8) rfl rfl (by simp only [argE] <;> rfl) ?_
  (repeat (first | refine W_seq ?_))
  skip
  refine W_region rfl ?_
  (refine WL_box rfl rfl rfl rfl rfl rfl ?_; intro b_)
  refine WL_is (X_assign rfl rfl) rfl rfl rfl ?_
  (repeat (first | refine WL_nil ?_ | refine Then_normal ?_ | refine W_seq ?_))
  skip
  refine W_region rfl ?_
  refine WL_is (X_loadA rfl rfl (by exact idx0) rfl rfl rfl) rfl rfl rfl ?_
  refine WL_is (X_callv rfl rfl rfl Try.func77 rfl (by assumption)) rfl rfl rfl ?_
  refine WL_is (X_shrW rfl rfl rfl (by omega) (by decide) (by simp only [Int.reduceToNat, Int.reducePow] <;> rfl)) rfl rfl rfl ?_
  refine WL_is (X_andW (k := .u16) rfl rfl rfl (by exact u16_and7 _ (by omega) (by omega))) rfl rfl rfl ?_
  refine WL_is (X_convW rfl rfl rfl rfl (by exact wrap_u8_in (by omega) (by omega))) rfl rfl rfl ?_
  refine WL_is (X_assign rfl rfl) rfl rfl rfl ?_
  (repeat (first | refine WL_nil ?_ | refine Then_normal ?_ | refine W_ret ?_))
  refine Body_end rfl rfl rfl (SubR.none _) ?_
  rfl
end Go.Proofs.Ytligadbnoiibnaa
