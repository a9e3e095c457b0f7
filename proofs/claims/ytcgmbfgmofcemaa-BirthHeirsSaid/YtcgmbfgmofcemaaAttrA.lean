/- Attributes as data; keys; what the library answers on strings of one byte. -/
import Derived.Test.YtcgmbfgmofcemaaAclF
import Derived.Test.YtcgmbfgmofcemaaEngJ
namespace Go.Proofs.Ytcgmbfgmofcemaa
set_option maxRecDepth 4000
open Go Go.Par PH



def encX (x : ByteArray × ByteArray) : List Value := [.string x.1, .string x.2]
def encU16 (x : Int) : List Value := [.int .u16 x]
structure Attr where
  bits : Int
  uid : Int
  gid : Int
  acc : Acl
  hd : Bool
  df : Acl
  xs : List (ByteArray × ByteArray)
structure Attr.Ok (a : Attr) : Prop where
  bits : u8 a.bits
  uid : u16 a.uid
  gid : u16 a.gid
  acc : a.acc.Ok
  df : a.df.Ok
def acl0 : Acl := ⟨0, 0, 0, [], [], false, 0⟩
def attr0 : Attr := ⟨0, 0, 0, acl0, false, acl0, []⟩
def attrV (a : Attr) (u g u2 g2 x : Value) : Value := .agg #[.int .u8 a.bits, .int .u16 a.uid, .int .u16 a.gid, .int .u8 a.acc.o, .int .u8 a.acc.g, .int .u8 a.acc.t, u, g, .bool a.acc.hm, .int .u8 a.acc.m, .bool a.hd,
  .int .u8 a.df.o, .int .u8 a.df.g, .int .u8 a.df.t, u2, g2, .bool a.df.hm, .int .u8 a.df.m, x]
def AttrV (h : PH) (v : Value) (a : Attr) : Prop := ∃ u g u2 g2 x, v = attrV a u g u2 g2 x ∧ Sl encN 2 h u a.acc.us ∧ Sl encN 2 h g a.acc.gs ∧ Sl encN 2 h u2 a.df.us ∧ Sl encN 2 h g2 a.df.gs ∧ Sl encX 2 h x a.xs
theorem AttrV.mono {h h' : PH} {v : Value} {a : Attr} (hl : le h h') (x : AttrV h v a) : AttrV h' v a :=
  let ⟨u, g, u2, g2, x, e, h1, h2, h3, h4, h5⟩ := x; ⟨u, g, u2, g2, x, e, h1.mono hl, h2.mono hl, h3.mono hl, h4.mono hl, h5.mono hl⟩
theorem AttrV.zero {h : PH} : AttrV h (attrV attr0 (.slice none 0 0) (.slice none 0 0) (.slice none 0 0) (.slice none 0 0) (.slice none 0 0)) attr0 := ⟨_, _, _, _, _, rfl, Sl.nil, Sl.nil, Sl.nil, Sl.nil, Sl.nil⟩
structure Attr.small (a : Attr) : Prop where
  acc : a.acc.small
  df : a.df.small
  xs : a.xs.length ≤ 1000
  ks : ∀ x ∈ a.xs, x.1.size ≤ 1000000
theorem lenX (l : List (ByteArray × ByteArray)) : ∀ x ∈ l, (encX x).length = 2 := fun _ _ => rfl
theorem flatX (l : List (ByteArray × ByteArray)) : ∀ x ∈ l, (encX x).all flat = true := fun _ _ => rfl
/-! What keys may be. -/
def has0 (s : ByteArray) : Bool := decide ((0 : UInt8) ∈ s.data.toList)
def keyB (s : ByteArray) : Bool := !has0 s && decide (1 ≤ s.size) && decide (s.size ≤ 8)
def valB (x : ByteArray × ByteArray) : Bool := keyB x.1 && decide (x.2.size ≤ 16)
def goodX (l : List (ByteArray × ByteArray)) (i : Nat) : Bool := if hi : i < l.length then valB l[i] && (decide (i = 0) || !strGe l[i - 1].1 l[i].1) else true
def Attr.may (a : Attr) : Bool := decide (a.bits ≤ 7) && a.acc.may && decide (a.xs.length ≤ 4) && (if a.hd then a.df.may else decide (a.df = acl0)) && allB a.xs.length (goodX a.xs)
theorem acl0_may : acl0.may = true := by decide
attribute [local irreducible] W WL Does Exec Body Then inBlk RG WR row obj pblk
theorem indexByte1_fn (h : PH) (s : ByteArray) (c : Int) : Does Try.prog 54 [.string s, .int .u8 c] [] h (Ret fun r R' _ => r = .int .i64 (Lib.indexByte s.data.toList c.toNat.toUInt8) ∧ R' = []) := by
  refine Does_of_W Try.func54 rfl (n := 8) rfl rfl (by simp only [argE, Nat.reduceAdd] <;> rfl) ?_
  (repeat (first | refine W_seq ?_))
  skip
  refine W_region rfl ?_
  refine WL_is (X_assign rfl rfl) rfl rfl rfl ?_
  (repeat (first | refine WL_nil ?_ | refine Then_normal ?_ | refine W_seq ?_))
  skip
  refine W_region rfl ?_
  refine WL_is (X_move rfl rfl) rfl rfl rfl ?_
  refine WL_is (X_move rfl rfl) rfl rfl rfl ?_
  refine WL_is (X_indexByteStr rfl rfl rfl Try.func58 (by kernel_rfl) (by kernel_rfl) (by kernel_rfl) (by kernel_rfl)) rfl rfl rfl ?_
  refine WL_is (X_assign rfl rfl) rfl rfl rfl ?_
  (repeat (first | refine WL_nil ?_ | refine Then_normal ?_ | refine W_ret ?_))
  exact Body_end rfl rfl rfl (SubR.none _) ⟨rfl, rfl⟩
theorem index1_fn (h : PH) (s : ByteArray) (c : UInt8) : Does Try.prog 53 [.string s, .string ⟨#[c]⟩] [] h (Ret fun r R' _ => r = .int .i64 (Lib.indexByte s.data.toList c) ∧ R' = []) := by
  have h1 : ((⟨#[c]⟩ : ByteArray).size : Int) = 1 := rfl
  have hb0 : (⟨#[c]⟩ : ByteArray).data.toList[Int.toNat 0]? = some c := rfl
  have hi := indexByte1_fn h s c.toNat
  rw [byte_back] at hi
  refine Does_of_W Try.func53 rfl (n := 143) rfl rfl (by simp only [argE, Nat.reduceAdd] <;> rfl) ?_
  cases hs : ((⟨#[c]⟩ : ByteArray) == s) with
  | true =>
    (repeat (first | refine W_seq ?_))
    skip
    refine W_region rfl ?_
    refine WL_is (X_assign rfl rfl) rfl rfl rfl ?_
    (repeat (first | refine WL_nil ?_ | refine Then_normal ?_ | refine W_seq ?_))
    skip
    refine W_region rfl ?_
    refine WL_is (X_move rfl rfl) rfl rfl rfl ?_
    refine WL_is (X_len_str rfl rfl rfl) rfl rfl rfl ?_
    refine WL_is (X_assign rfl rfl) rfl rfl rfl ?_
    (repeat (first | refine WL_nil ?_ | refine Then_normal ?_ | refine W_seq ?_ | refine W_block ?_))
    skip
    refine W_region rfl ?_
    refine WL_is (X_move rfl rfl) rfl rfl rfl ?_
    refine WL_is (X_eql_f rfl rfl rfl (by omega)) rfl rfl rfl ?_
    refine WL_is (X_move rfl rfl) rfl rfl rfl ?_
    refine WL_is (X_move rfl rfl) rfl rfl rfl ?_
    refine WL_is (X_move rfl rfl) rfl rfl rfl ?_
    refine WL_is (X_eqS_c rfl rfl rfl (by assumption)) rfl rfl rfl ?_
    refine WL_is (X_pick_f rfl rfl rfl) rfl rfl rfl ?_
    refine WL_is (X_assign rfl rfl) rfl rfl rfl ?_
    (repeat (first | refine WL_nil ?_ | refine Then_normal ?_ | refine W_seq ?_ | refine W_true rfl ?_))
    skip
    refine W_region rfl ?_
    refine WL_is (X_assign rfl rfl) rfl rfl rfl ?_
    (repeat (first | refine WL_nil ?_ | refine Then_normal ?_ | refine W_ret ?_ | refine Then_ret ?_ | refine inBlk_ret ?_))
    have e : (⟨#[c]⟩ : ByteArray) = s := ByteArray.ext (eq_of_beq (α := Array UInt8) hs)
    subst e
    exact Body_end rfl rfl rfl (SubR.none _) ⟨by simp [Lib.indexByte], rfl⟩
  | false =>
    (repeat (first | refine W_seq ?_))
    skip
    refine W_region rfl ?_
    refine WL_is (X_assign rfl rfl) rfl rfl rfl ?_
    (repeat (first | refine WL_nil ?_ | refine Then_normal ?_ | refine W_seq ?_))
    skip
    refine W_region rfl ?_
    refine WL_is (X_move rfl rfl) rfl rfl rfl ?_
    refine WL_is (X_len_str rfl rfl rfl) rfl rfl rfl ?_
    refine WL_is (X_assign rfl rfl) rfl rfl rfl ?_
    (repeat (first | refine WL_nil ?_ | refine Then_normal ?_ | refine W_seq ?_ | refine W_block ?_))
    skip
    refine W_region rfl ?_
    refine WL_is (X_move rfl rfl) rfl rfl rfl ?_
    refine WL_is (X_eql_f rfl rfl rfl (by omega)) rfl rfl rfl ?_
    refine WL_is (X_move rfl rfl) rfl rfl rfl ?_
    refine WL_is (X_move rfl rfl) rfl rfl rfl ?_
    refine WL_is (X_move rfl rfl) rfl rfl rfl ?_
    refine WL_is (X_eqS_c rfl rfl rfl (by assumption)) rfl rfl rfl ?_
    refine WL_is (X_pick_f rfl rfl rfl) rfl rfl rfl ?_
    refine WL_is (X_assign rfl rfl) rfl rfl rfl ?_
    (repeat (first | refine WL_nil ?_ | refine Then_normal ?_ | refine W_seq ?_ | refine W_false rfl ?_))
    skip
    refine W_region rfl ?_
    refine WL_is (X_move rfl rfl) rfl rfl rfl ?_
    refine WL_is (X_eql_t rfl rfl rfl (by omega)) rfl rfl rfl ?_
    refine WL_is (X_assign rfl rfl) rfl rfl rfl ?_
    (repeat (first | refine WL_nil ?_ | refine Then_normal ?_ | refine W_seq ?_ | refine W_true rfl ?_))
    skip
    refine W_region rfl ?_
    refine WL_is (X_move rfl rfl) rfl rfl rfl ?_
    refine WL_is (X_move rfl rfl) rfl rfl rfl ?_
    refine WL_is (X_index_str rfl rfl rfl rfl (by omega) (by assumption)) rfl rfl rfl ?_
    refine WL_call rfl rfl rfl Try.func54 rfl rfl rfl rfl hi ?_
    rintro _ _ h2 - ⟨rfl, rfl⟩
    simp only [List.nil_append]
    refine WL_is (X_assign rfl rfl) rfl rfl rfl ?_
    (repeat (first | refine WL_nil ?_ | refine Then_normal ?_ | refine W_ret ?_ | refine Then_ret ?_ | refine inBlk_ret ?_))
    exact Body_end rfl rfl rfl (SubR.none _) ⟨rfl, rfl⟩
theorem strIndex1_fn (h : PH) (s : ByteArray) (c : UInt8) : Does Try.prog 52 [.string s, .string ⟨#[c]⟩] [] h (Ret fun r R' _ => r = .int .i64 (Lib.indexByte s.data.toList c) ∧ R' = []) := by
  have hi := index1_fn h s c
  refine Does_of_W Try.func52 rfl (n := 8) rfl rfl (by simp only [argE, Nat.reduceAdd] <;> rfl) ?_
  (repeat (first | refine W_seq ?_))
  skip
  refine W_region rfl ?_
  refine WL_is (X_assign rfl rfl) rfl rfl rfl ?_
  (repeat (first | refine WL_nil ?_ | refine Then_normal ?_ | refine W_seq ?_))
  skip
  refine W_region rfl ?_
  refine WL_is (X_move rfl rfl) rfl rfl rfl ?_
  refine WL_is (X_move rfl rfl) rfl rfl rfl ?_
  refine WL_call rfl rfl rfl Try.func53 rfl rfl rfl rfl hi ?_
  rintro _ _ h2 - ⟨rfl, rfl⟩
  simp only [List.nil_append]
  refine WL_is (X_assign rfl rfl) rfl rfl rfl ?_
  (repeat (first | refine WL_nil ?_ | refine Then_normal ?_ | refine W_ret ?_))
  exact Body_end rfl rfl rfl (SubR.none _) ⟨rfl, rfl⟩
theorem contains1_fn (h : PH) (s : ByteArray) (c : UInt8) : Does Try.prog 47 [.string s, .string ⟨#[c]⟩] [] h (Ret fun r _ _ => r = .bool (decide (c ∈ s.data.toList))) := by
  have hi := strIndex1_fn h s c
  have hm := indexByte_mem (c := c) (l := s.data.toList)
  generalize Lib.indexByte s.data.toList c = x at hi hm
  refine Does_of_W Try.func47 rfl (n := 9) rfl rfl (by simp only [argE, Nat.reduceAdd] <;> rfl) ?_
  by_cases hc : c ∈ s.data.toList
  · have hx := hm.2 hc
    (repeat (first | refine W_seq ?_))
    skip
    refine W_region rfl ?_
    refine WL_is (X_assign rfl rfl) rfl rfl rfl ?_
    (repeat (first | refine WL_nil ?_ | refine Then_normal ?_ | refine W_seq ?_))
    skip
    refine W_region rfl ?_
    refine WL_is (X_move rfl rfl) rfl rfl rfl ?_
    refine WL_is (X_move rfl rfl) rfl rfl rfl ?_
    refine WL_call rfl rfl rfl Try.func52 rfl rfl rfl rfl hi ?_
    rintro _ _ h2 - ⟨rfl, rfl⟩
    simp only [List.nil_append]
    refine WL_is (X_geq_t rfl rfl rfl (by omega)) rfl rfl rfl ?_
    refine WL_is (X_assign rfl rfl) rfl rfl rfl ?_
    (repeat (first | refine WL_nil ?_ | refine Then_normal ?_ | refine W_ret ?_))
    refine Body_end rfl rfl rfl (SubR.none _) ?_
    rw [decide_eq_true hc]
  · have hx : ¬ 0 ≤ x := fun h => hc (hm.1 h)
    (repeat (first | refine W_seq ?_))
    skip
    refine W_region rfl ?_
    refine WL_is (X_assign rfl rfl) rfl rfl rfl ?_
    (repeat (first | refine WL_nil ?_ | refine Then_normal ?_ | refine W_seq ?_))
    skip
    refine W_region rfl ?_
    refine WL_is (X_move rfl rfl) rfl rfl rfl ?_
    refine WL_is (X_move rfl rfl) rfl rfl rfl ?_
    refine WL_call rfl rfl rfl Try.func52 rfl rfl rfl rfl hi ?_
    rintro _ _ h2 - ⟨rfl, rfl⟩
    simp only [List.nil_append]
    refine WL_is (X_geq_f rfl rfl rfl (by omega)) rfl rfl rfl ?_
    refine WL_is (X_assign rfl rfl) rfl rfl rfl ?_
    (repeat (first | refine WL_nil ?_ | refine Then_normal ?_ | refine W_ret ?_))
    refine Body_end rfl rfl rfl (SubR.none _) ?_
    rw [decide_eq_false hc]
theorem key_ref (h : PH) (s : ByteArray) (hb : s.size ≤ 1000000) : Does Try.prog 33 [.string s] [] h (Ret fun r _ _ => r = .bool (keyB s)) := by
  refine Does_of_W Try.func33 rfl (n := 22) rfl rfl (by simp only [argE] <;> rfl) ?_
  (repeat (first | refine W_seq ?_))
  skip
  refine W_region rfl ?_
  refine WL_is (X_assign rfl rfl) rfl rfl rfl ?_
  (repeat (first | refine WL_nil ?_ | refine Then_normal ?_ | refine W_seq ?_))
  skip
  refine W_region rfl ?_
  refine WL_is (X_assign rfl rfl) rfl rfl rfl ?_
  (repeat (first | refine WL_nil ?_ | refine Then_normal ?_ | refine W_block ?_))
  refine W_loop (X := Nat) (L := fun k => ⟨[(3, .int .i64 (k : Int)), (0, .string s)], [], [], h⟩) (p := fun k => k ≤ s.size ∧ ∀ j (hj : j < k) (hj' : j < s.data.toList.length), s.data.toList[j] ≠ 0) (μ := fun k => s.size - k) 0 ⟨(by repeat (first | exact SubE_nil | refine SubE_cons rfl ?_)), rfl, SubR.refl _, rfl⟩ ⟨Nat.zero_le _, fun j hj => by omega⟩ ?_
  rintro k ⟨hk, hgood⟩
  have hsz : s.data.toList.length = s.size := by simp
  by_cases hlt : k < s.size
  · have hlt' : k < s.data.toList.length := by omega
    have hlti : (k : Int) < s.size := by omega
    have hc : s.data.toList[(k : Int).toNat]? = some s.data.toList[k] := by simp
    have hz := byte_zero (c := s.data.toList[k])
    generalize hcc : s.data.toList[k] = c at hc hz
    by_cases h0 : c = 0
    · have h0' := hz.2 h0
      (repeat (first | refine W_seq ?_))
      refine W_region rfl ?_
      refine WL_is (X_move rfl rfl) rfl rfl rfl ?_
      refine WL_is (X_move rfl rfl) rfl rfl rfl ?_
      refine WL_is (X_len_str rfl rfl rfl) rfl rfl rfl ?_
      refine WL_is (X_lss_t rfl rfl rfl (by omega)) rfl rfl rfl ?_
      (repeat (first | refine WL_nil ?_ | refine Then_normal ?_ | refine W_seq ?_ | refine W_skip ?_ | refine W_block ?_ | refine W_true rfl ?_))
      skip
      refine W_region rfl ?_
      refine WL_is (X_move rfl rfl) rfl rfl rfl ?_
      refine WL_is (X_move rfl rfl) rfl rfl rfl ?_
      refine WL_is (X_index_str rfl rfl rfl rfl (by omega) (by assumption)) rfl rfl rfl ?_
      refine WL_is (X_eql_t rfl rfl rfl (by omega)) rfl rfl rfl ?_
      (repeat (first | refine WL_nil ?_ | refine Then_normal ?_ | refine W_seq ?_ | refine W_true rfl ?_))
      skip
      refine W_region rfl ?_
      refine WL_is (X_assign rfl rfl) rfl rfl rfl ?_
      (repeat (first | refine WL_nil ?_ | refine Then_normal ?_ | refine W_ret ?_ | refine Then_ret ?_ | refine inBlk_ret ?_))
      refine Body_end rfl rfl rfl (SubR.none _) ?_
      have : has0 s = true := decide_eq_true (h0 ▸ hcc ▸ List.getElem_mem _)
      unfold keyB; rw [this]; rfl
    · have h0' : ¬ (c.toNat : Int) = 0 := fun e => h0 (hz.1 e)
      (repeat (first | refine W_seq ?_))
      refine W_region rfl ?_
      refine WL_is (X_move rfl rfl) rfl rfl rfl ?_
      refine WL_is (X_move rfl rfl) rfl rfl rfl ?_
      refine WL_is (X_len_str rfl rfl rfl) rfl rfl rfl ?_
      refine WL_is (X_lss_t rfl rfl rfl (by omega)) rfl rfl rfl ?_
      (repeat (first | refine WL_nil ?_ | refine Then_normal ?_ | refine W_seq ?_ | refine W_skip ?_ | refine W_block ?_ | refine W_true rfl ?_))
      skip
      refine W_region rfl ?_
      refine WL_is (X_move rfl rfl) rfl rfl rfl ?_
      refine WL_is (X_move rfl rfl) rfl rfl rfl ?_
      refine WL_is (X_index_str rfl rfl rfl rfl (by omega) (by assumption)) rfl rfl rfl ?_
      refine WL_is (X_eql_f rfl rfl rfl (by omega)) rfl rfl rfl ?_
      (repeat (first | refine WL_nil ?_ | refine Then_normal ?_ | refine W_skip ?_ | refine inBlk_normal ?_ | refine W_false rfl ?_))
      skip
      refine W_region rfl ?_
      refine WL_is (X_move rfl rfl) rfl rfl rfl ?_
      refine WL_is (X_addW rfl rfl rfl (by exact wrap_i64_in (by omega) (by omega))) rfl rfl rfl ?_
      refine WL_is (X_assign rfl rfl) rfl rfl rfl ?_
      (repeat (first | refine WL_nil ?_ | refine Then_normal ?_))
      refine ⟨k + 1, ⟨(by repeat (first | exact SubE_nil | refine SubE_cons rfl ?_)), rfl, SubR.refl _, rfl⟩, ⟨by omega, fun j hj hj' => ?_⟩, by omega⟩
      rcases Nat.lt_or_ge j k with h1 | h1
      · exact hgood j h1 hj'
      · have : j = k := by omega
        subst this; rw [hcc]; exact h0
  · have hno : has0 s = false := decide_eq_false fun hm => by
      obtain ⟨j, hj, e⟩ := List.getElem_of_mem hm
      exact hgood j (by omega) hj e
    have hlti : ¬ (k : Int) < s.size := by omega
    have hk2 : keyB s = (decide (1 ≤ s.size) && decide (s.size ≤ 8)) := by unfold keyB; rw [hno]; rfl
    rw [hk2]
    by_cases h1 : 1 ≤ s.size
    · have h1' : (1 : Int) ≤ s.size := by omega
      by_cases h8 : s.size ≤ 8
      · have h8' : (s.size : Int) ≤ 8 := by omega
        (repeat (first | refine W_seq ?_))
        refine W_region rfl ?_
        refine WL_is (X_move rfl rfl) rfl rfl rfl ?_
        refine WL_is (X_move rfl rfl) rfl rfl rfl ?_
        refine WL_is (X_len_str rfl rfl rfl) rfl rfl rfl ?_
        refine WL_is (X_lss_f rfl rfl rfl (by omega)) rfl rfl rfl ?_
        (repeat (first | refine WL_nil ?_ | refine Then_normal ?_ | refine W_seq ?_ | refine W_exit ?_ | refine Then_exit ?_ | refine inBlk_here ?_ | refine W_false rfl ?_))
        skip
        refine W_region rfl ?_
        refine WL_is (X_move rfl rfl) rfl rfl rfl ?_
        refine WL_is (X_len_str rfl rfl rfl) rfl rfl rfl ?_
        refine WL_is (X_geq_t rfl rfl rfl (by omega)) rfl rfl rfl ?_
        refine WL_is (X_move rfl rfl) rfl rfl rfl ?_
        refine WL_is (X_move rfl rfl) rfl rfl rfl ?_
        refine WL_is (X_len_str rfl rfl rfl) rfl rfl rfl ?_
        refine WL_is (X_leq_t rfl rfl rfl (by omega)) rfl rfl rfl ?_
        refine WL_is (X_pick_t rfl rfl rfl) rfl rfl rfl ?_
        refine WL_is (X_assign rfl rfl) rfl rfl rfl ?_
        (repeat (first | refine WL_nil ?_ | refine Then_normal ?_ | refine W_ret ?_))
        refine Body_end rfl rfl rfl (SubR.none _) ?_
        simp [h1, h8]
      · have h8' : ¬ (s.size : Int) ≤ 8 := by omega
        (repeat (first | refine W_seq ?_))
        refine W_region rfl ?_
        refine WL_is (X_move rfl rfl) rfl rfl rfl ?_
        refine WL_is (X_move rfl rfl) rfl rfl rfl ?_
        refine WL_is (X_len_str rfl rfl rfl) rfl rfl rfl ?_
        refine WL_is (X_lss_f rfl rfl rfl (by omega)) rfl rfl rfl ?_
        (repeat (first | refine WL_nil ?_ | refine Then_normal ?_ | refine W_seq ?_ | refine W_exit ?_ | refine Then_exit ?_ | refine inBlk_here ?_ | refine W_false rfl ?_))
        skip
        refine W_region rfl ?_
        refine WL_is (X_move rfl rfl) rfl rfl rfl ?_
        refine WL_is (X_len_str rfl rfl rfl) rfl rfl rfl ?_
        refine WL_is (X_geq_t rfl rfl rfl (by omega)) rfl rfl rfl ?_
        refine WL_is (X_move rfl rfl) rfl rfl rfl ?_
        refine WL_is (X_move rfl rfl) rfl rfl rfl ?_
        refine WL_is (X_len_str rfl rfl rfl) rfl rfl rfl ?_
        refine WL_is (X_leq_f rfl rfl rfl (by omega)) rfl rfl rfl ?_
        refine WL_is (X_pick_t rfl rfl rfl) rfl rfl rfl ?_
        refine WL_is (X_assign rfl rfl) rfl rfl rfl ?_
        (repeat (first | refine WL_nil ?_ | refine Then_normal ?_ | refine W_ret ?_))
        refine Body_end rfl rfl rfl (SubR.none _) ?_
        simp [h8]
    · have h1' : ¬ (1 : Int) ≤ s.size := by omega
      (repeat (first | refine W_seq ?_))
      refine W_region rfl ?_
      refine WL_is (X_move rfl rfl) rfl rfl rfl ?_
      refine WL_is (X_move rfl rfl) rfl rfl rfl ?_
      refine WL_is (X_len_str rfl rfl rfl) rfl rfl rfl ?_
      refine WL_is (X_lss_f rfl rfl rfl (by omega)) rfl rfl rfl ?_
      (repeat (first | refine WL_nil ?_ | refine Then_normal ?_ | refine W_seq ?_ | refine W_exit ?_ | refine Then_exit ?_ | refine inBlk_here ?_ | refine W_false rfl ?_))
      skip
      refine W_region rfl ?_
      refine WL_is (X_move rfl rfl) rfl rfl rfl ?_
      refine WL_is (X_len_str rfl rfl rfl) rfl rfl rfl ?_
      refine WL_is (X_geq_f rfl rfl rfl (by omega)) rfl rfl rfl ?_
      refine WL_is (X_move rfl rfl) rfl rfl rfl ?_
      refine WL_off rfl rfl rfl ?_
      refine WL_off rfl rfl rfl ?_
      refine WL_off rfl rfl rfl ?_
      refine WL_is (X_pick_f rfl rfl rfl) rfl rfl rfl ?_
      refine WL_is (X_assign rfl rfl) rfl rfl rfl ?_
      (repeat (first | refine WL_nil ?_ | refine Then_normal ?_ | refine W_ret ?_))
      refine Body_end rfl rfl rfl (SubR.none _) ?_
      simp [h1]
set_option maxHeartbeats 1000000 in
theorem value_fn (h : PH) (x : ByteArray × ByteArray) : Does Try.prog 38 [.agg #[.string x.1, .string x.2]] [] h (Ret fun r _ _ => r = .bool (valB x)) := by
  obtain ⟨s, t⟩ := x
  have hcn := fun h => contains1_fn h s 0
  unfold valB keyB has0
  dsimp only
  refine Does_of_W Try.func38 rfl (n := 25) rfl rfl (by simp only [argE] <;> rfl) ?_
  by_cases h1 : 1 ≤ s.size
  · have h1' : (s.size : Int) ≥ 1 := by omega
    by_cases h8 : s.size ≤ 8
    · have h8' : (s.size : Int) ≤ 8 := by omega
      by_cases h0 : (0 : UInt8) ∈ s.data.toList
      · have c1 := hcn h
        rw [decide_eq_true h0] at c1
        (repeat (first | refine W_seq ?_))
        skip
        refine W_region rfl ?_
        (refine WL_box rfl rfl rfl rfl rfl rfl ?_; intro b_)
        refine WL_is (X_assign rfl rfl) rfl rfl rfl ?_
        (repeat (first | refine WL_nil ?_ | refine Then_normal ?_ | refine W_seq ?_))
        skip
        refine W_region rfl ?_
        refine WL_is (X_fieldAddr rfl rfl rfl (by simp only [Nat.zero_add] <;> rfl)) rfl rfl rfl ?_
        refine WL_is (X_load1 rfl rfl (by exact idx0) rfl rfl) rfl rfl rfl ?_
        refine WL_is (X_len_str rfl rfl rfl) rfl rfl rfl ?_
        refine WL_is (X_geq_t rfl rfl rfl (by omega)) rfl rfl rfl ?_
        refine WL_is (X_move rfl rfl) rfl rfl rfl ?_
        refine WL_is (X_fieldAddr rfl rfl rfl (by simp only [Nat.zero_add] <;> rfl)) rfl rfl rfl ?_
        refine WL_is (X_load1 rfl rfl (by exact idx0) rfl rfl) rfl rfl rfl ?_
        refine WL_is (X_len_str rfl rfl rfl) rfl rfl rfl ?_
        refine WL_is (X_leq_t rfl rfl rfl (by omega)) rfl rfl rfl ?_
        refine WL_is (X_pick_t rfl rfl rfl) rfl rfl rfl ?_
        refine WL_is (X_move rfl rfl) rfl rfl rfl ?_
        refine WL_is (X_fieldAddr rfl rfl rfl (by simp only [Nat.zero_add] <;> rfl)) rfl rfl rfl ?_
        refine WL_is (X_load1 rfl rfl (by exact idx0) rfl rfl) rfl rfl rfl ?_
        refine WL_is (X_callv rfl rfl rfl Try.func47 rfl (by assumption)) rfl rfl rfl ?_
        refine WL_is (X_not rfl rfl) rfl rfl rfl ?_
        refine WL_is (X_pick_t rfl rfl rfl) rfl rfl rfl ?_
        refine WL_is (X_move rfl rfl) rfl rfl rfl ?_
        refine WL_off rfl rfl rfl ?_
        refine WL_off rfl rfl rfl ?_
        refine WL_off rfl rfl rfl ?_
        refine WL_off rfl rfl rfl ?_
        refine WL_is (X_pick_f rfl rfl rfl) rfl rfl rfl ?_
        refine WL_is (X_assign rfl rfl) rfl rfl rfl ?_
        (repeat (first | refine WL_nil ?_ | refine Then_normal ?_ | refine W_ret ?_))
        refine Body_end rfl rfl rfl (SubR.none _) ?_
        simp [h0]
      · have c1 := hcn h
        rw [decide_eq_false h0] at c1
        by_cases h16 : t.size ≤ 16
        · have h16' : (t.size : Int) ≤ 16 := by omega
          (repeat (first | refine W_seq ?_))
          skip
          refine W_region rfl ?_
          (refine WL_box rfl rfl rfl rfl rfl rfl ?_; intro b_)
          refine WL_is (X_assign rfl rfl) rfl rfl rfl ?_
          (repeat (first | refine WL_nil ?_ | refine Then_normal ?_ | refine W_seq ?_))
          skip
          refine W_region rfl ?_
          refine WL_is (X_fieldAddr rfl rfl rfl (by simp only [Nat.zero_add] <;> rfl)) rfl rfl rfl ?_
          refine WL_is (X_load1 rfl rfl (by exact idx0) rfl rfl) rfl rfl rfl ?_
          refine WL_is (X_len_str rfl rfl rfl) rfl rfl rfl ?_
          refine WL_is (X_geq_t rfl rfl rfl (by omega)) rfl rfl rfl ?_
          refine WL_is (X_move rfl rfl) rfl rfl rfl ?_
          refine WL_is (X_fieldAddr rfl rfl rfl (by simp only [Nat.zero_add] <;> rfl)) rfl rfl rfl ?_
          refine WL_is (X_load1 rfl rfl (by exact idx0) rfl rfl) rfl rfl rfl ?_
          refine WL_is (X_len_str rfl rfl rfl) rfl rfl rfl ?_
          refine WL_is (X_leq_t rfl rfl rfl (by omega)) rfl rfl rfl ?_
          refine WL_is (X_pick_t rfl rfl rfl) rfl rfl rfl ?_
          refine WL_is (X_move rfl rfl) rfl rfl rfl ?_
          refine WL_is (X_fieldAddr rfl rfl rfl (by simp only [Nat.zero_add] <;> rfl)) rfl rfl rfl ?_
          refine WL_is (X_load1 rfl rfl (by exact idx0) rfl rfl) rfl rfl rfl ?_
          refine WL_is (X_callv rfl rfl rfl Try.func47 rfl (by assumption)) rfl rfl rfl ?_
          refine WL_is (X_not rfl rfl) rfl rfl rfl ?_
          refine WL_is (X_pick_t rfl rfl rfl) rfl rfl rfl ?_
          refine WL_is (X_move rfl rfl) rfl rfl rfl ?_
          refine WL_is (X_fieldAddr rfl rfl rfl (by simp only [Nat.zero_add] <;> rfl)) rfl rfl rfl ?_
          refine WL_is (X_load1 rfl rfl (by exact idx0) rfl rfl) rfl rfl rfl ?_
          refine WL_is (X_len_str rfl rfl rfl) rfl rfl rfl ?_
          refine WL_is (X_leq_t rfl rfl rfl (by omega)) rfl rfl rfl ?_
          refine WL_is (X_pick_t rfl rfl rfl) rfl rfl rfl ?_
          refine WL_is (X_assign rfl rfl) rfl rfl rfl ?_
          (repeat (first | refine WL_nil ?_ | refine Then_normal ?_ | refine W_ret ?_))
          refine Body_end rfl rfl rfl (SubR.none _) ?_
          simp [h0, h1, h8, h16]
        · have h16' : ¬ (t.size : Int) ≤ 16 := by omega
          (repeat (first | refine W_seq ?_))
          skip
          refine W_region rfl ?_
          (refine WL_box rfl rfl rfl rfl rfl rfl ?_; intro b_)
          refine WL_is (X_assign rfl rfl) rfl rfl rfl ?_
          (repeat (first | refine WL_nil ?_ | refine Then_normal ?_ | refine W_seq ?_))
          skip
          refine W_region rfl ?_
          refine WL_is (X_fieldAddr rfl rfl rfl (by simp only [Nat.zero_add] <;> rfl)) rfl rfl rfl ?_
          refine WL_is (X_load1 rfl rfl (by exact idx0) rfl rfl) rfl rfl rfl ?_
          refine WL_is (X_len_str rfl rfl rfl) rfl rfl rfl ?_
          refine WL_is (X_geq_t rfl rfl rfl (by omega)) rfl rfl rfl ?_
          refine WL_is (X_move rfl rfl) rfl rfl rfl ?_
          refine WL_is (X_fieldAddr rfl rfl rfl (by simp only [Nat.zero_add] <;> rfl)) rfl rfl rfl ?_
          refine WL_is (X_load1 rfl rfl (by exact idx0) rfl rfl) rfl rfl rfl ?_
          refine WL_is (X_len_str rfl rfl rfl) rfl rfl rfl ?_
          refine WL_is (X_leq_t rfl rfl rfl (by omega)) rfl rfl rfl ?_
          refine WL_is (X_pick_t rfl rfl rfl) rfl rfl rfl ?_
          refine WL_is (X_move rfl rfl) rfl rfl rfl ?_
          refine WL_is (X_fieldAddr rfl rfl rfl (by simp only [Nat.zero_add] <;> rfl)) rfl rfl rfl ?_
          refine WL_is (X_load1 rfl rfl (by exact idx0) rfl rfl) rfl rfl rfl ?_
          refine WL_is (X_callv rfl rfl rfl Try.func47 rfl (by assumption)) rfl rfl rfl ?_
          refine WL_is (X_not rfl rfl) rfl rfl rfl ?_
          refine WL_is (X_pick_t rfl rfl rfl) rfl rfl rfl ?_
          refine WL_is (X_move rfl rfl) rfl rfl rfl ?_
          refine WL_is (X_fieldAddr rfl rfl rfl (by simp only [Nat.zero_add] <;> rfl)) rfl rfl rfl ?_
          refine WL_is (X_load1 rfl rfl (by exact idx0) rfl rfl) rfl rfl rfl ?_
          refine WL_is (X_len_str rfl rfl rfl) rfl rfl rfl ?_
          refine WL_is (X_leq_f rfl rfl rfl (by omega)) rfl rfl rfl ?_
          refine WL_is (X_pick_t rfl rfl rfl) rfl rfl rfl ?_
          refine WL_is (X_assign rfl rfl) rfl rfl rfl ?_
          (repeat (first | refine WL_nil ?_ | refine Then_normal ?_ | refine W_ret ?_))
          refine Body_end rfl rfl rfl (SubR.none _) ?_
          simp [h16]
    · have h8' : ¬ (s.size : Int) ≤ 8 := by omega
      (repeat (first | refine W_seq ?_))
      skip
      refine W_region rfl ?_
      (refine WL_box rfl rfl rfl rfl rfl rfl ?_; intro b_)
      refine WL_is (X_assign rfl rfl) rfl rfl rfl ?_
      (repeat (first | refine WL_nil ?_ | refine Then_normal ?_ | refine W_seq ?_))
      skip
      refine W_region rfl ?_
      refine WL_is (X_fieldAddr rfl rfl rfl (by simp only [Nat.zero_add] <;> rfl)) rfl rfl rfl ?_
      refine WL_is (X_load1 rfl rfl (by exact idx0) rfl rfl) rfl rfl rfl ?_
      refine WL_is (X_len_str rfl rfl rfl) rfl rfl rfl ?_
      refine WL_is (X_geq_t rfl rfl rfl (by omega)) rfl rfl rfl ?_
      refine WL_is (X_move rfl rfl) rfl rfl rfl ?_
      refine WL_is (X_fieldAddr rfl rfl rfl (by simp only [Nat.zero_add] <;> rfl)) rfl rfl rfl ?_
      refine WL_is (X_load1 rfl rfl (by exact idx0) rfl rfl) rfl rfl rfl ?_
      refine WL_is (X_len_str rfl rfl rfl) rfl rfl rfl ?_
      refine WL_is (X_leq_f rfl rfl rfl (by omega)) rfl rfl rfl ?_
      refine WL_is (X_pick_t rfl rfl rfl) rfl rfl rfl ?_
      refine WL_is (X_move rfl rfl) rfl rfl rfl ?_
      refine WL_off rfl rfl rfl ?_
      refine WL_off rfl rfl rfl ?_
      refine WL_off rfl rfl rfl ?_
      refine WL_off rfl rfl rfl ?_
      refine WL_is (X_pick_f rfl rfl rfl) rfl rfl rfl ?_
      refine WL_is (X_move rfl rfl) rfl rfl rfl ?_
      refine WL_off rfl rfl rfl ?_
      refine WL_off rfl rfl rfl ?_
      refine WL_off rfl rfl rfl ?_
      refine WL_off rfl rfl rfl ?_
      refine WL_is (X_pick_f rfl rfl rfl) rfl rfl rfl ?_
      refine WL_is (X_assign rfl rfl) rfl rfl rfl ?_
      (repeat (first | refine WL_nil ?_ | refine Then_normal ?_ | refine W_ret ?_))
      refine Body_end rfl rfl rfl (SubR.none _) ?_
      simp [h8]
  · have h1' : ¬ (s.size : Int) ≥ 1 := by omega
    (repeat (first | refine W_seq ?_))
    skip
    refine W_region rfl ?_
    (refine WL_box rfl rfl rfl rfl rfl rfl ?_; intro b_)
    refine WL_is (X_assign rfl rfl) rfl rfl rfl ?_
    (repeat (first | refine WL_nil ?_ | refine Then_normal ?_ | refine W_seq ?_))
    skip
    refine W_region rfl ?_
    refine WL_is (X_fieldAddr rfl rfl rfl (by simp only [Nat.zero_add] <;> rfl)) rfl rfl rfl ?_
    refine WL_is (X_load1 rfl rfl (by exact idx0) rfl rfl) rfl rfl rfl ?_
    refine WL_is (X_len_str rfl rfl rfl) rfl rfl rfl ?_
    refine WL_is (X_geq_f rfl rfl rfl (by omega)) rfl rfl rfl ?_
    refine WL_is (X_move rfl rfl) rfl rfl rfl ?_
    refine WL_off rfl rfl rfl ?_
    refine WL_off rfl rfl rfl ?_
    refine WL_off rfl rfl rfl ?_
    refine WL_off rfl rfl rfl ?_
    refine WL_is (X_pick_f rfl rfl rfl) rfl rfl rfl ?_
    refine WL_is (X_move rfl rfl) rfl rfl rfl ?_
    refine WL_off rfl rfl rfl ?_
    refine WL_off rfl rfl rfl ?_
    refine WL_off rfl rfl rfl ?_
    refine WL_off rfl rfl rfl ?_
    refine WL_is (X_pick_f rfl rfl rfl) rfl rfl rfl ?_
    refine WL_is (X_move rfl rfl) rfl rfl rfl ?_
    refine WL_off rfl rfl rfl ?_
    refine WL_off rfl rfl rfl ?_
    refine WL_off rfl rfl rfl ?_
    refine WL_off rfl rfl rfl ?_
    refine WL_is (X_pick_f rfl rfl rfl) rfl rfl rfl ?_
    refine WL_is (X_assign rfl rfl) rfl rfl rfl ?_
    (repeat (first | refine WL_nil ?_ | refine Then_normal ?_ | refine W_ret ?_))
    refine Body_end rfl rfl rfl (SubR.none _) ?_
    simp [h1]
end Go.Proofs.Ytcgmbfgmofcemaa
