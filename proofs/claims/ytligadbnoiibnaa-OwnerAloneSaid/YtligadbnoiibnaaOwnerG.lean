/- Who may turn attributes: another owner. -/
import Derived.Test.YtligadbnoiibnaaOwnerF
namespace Go.Proofs.Ytligadbnoiibnaa
set_option maxRecDepth 4000
open Go Go.Par PH
def rngO (c : Cred) (a : Attr) (uid gid : Int) : Bool := mayO c a && (decide (-1 ≤ uid) && (decide (uid ≤ 65535) && (decide (-1 ≤ gid) && decide (gid ≤ 65535))))
def passO (c : Cred) (a : Attr) (uid gid : Int) : Bool := decide (c.uid = 0) || ((decide (uid = -1) || decide (uid = a.uid)) && (decide (gid = -1) || (decide (gid = a.gid) || c.inB gid)))
def Attr.given (a : Attr) (uid gid : Int) : Attr := { a with uid := if 0 ≤ uid then uid else a.uid, gid := if 0 ≤ gid then gid else a.gid }
def chownO (c : Cred) (a : Attr) (kind uid gid : Int) : Int × Attr := if rngO c a uid gid = true then (if ownsO c a = true then (if passO c a uid gid = true then (0, if kind = 1 then goesO (a.given uid gid) else a.given uid gid) else (601, attr0)) else (601, attr0)) else (622, attr0)
theorem Attr.given_small {a : Attr} {u g : Int} (h : a.small) : (a.given u g).small := ⟨h.acc, h.df, h.xs, h.ks⟩
theorem Attr.given_ok {a : Attr} {u g : Int} (h : a.Ok) (hu : u ≤ 65535) (hg : g ≤ 65535) : (a.given u g).Ok := by
  have h1 := h.uid
  have h2 := h.gid
  unfold u16 at h1 h2
  refine ⟨h.bits, ?_, ?_, h.acc, h.df⟩
  · unfold Attr.given u16; dsimp only; split <;> omega
  · unfold Attr.given u16; dsimp only; split <;> omega
attribute [local irreducible] W WL Does Exec Body Then inBlk RG WR row obj pblk
attribute [local irreducible] bits
set_option maxHeartbeats 4000000 in
theorem chown13_fn (h : PH) (c : Cred) (cv : Value) (a : Attr) (v : Value) (kind uid gid : Int) (hc : CredV h cv c) (hcl : c.gs.length ≤ 1000) (hv : AttrV h v a) (hs : a.small) (hok : a.Ok) :
    Does Try.prog 22 [cv, v, .int .u8 kind, .int .i64 uid, .int .i64 gid] [] h (Ret (AnsO (chownO c a kind uid gid))) := by
  have m1 := may13_fn h c cv a v hc hv hs hok
  have m2 := owns_fn h c cv a v hc hv
  have m3 := in_fn h c cv gid hc hcl
  have hau := hok.uid
  have hag := hok.gid
  unfold u16 at hau hag
  have hc' := hc
  have hv' := hv
  have u1 := unless_t h 622
  have u2 := unless_t h 601
  obtain ⟨x, rfl, hx⟩ := hc
  obtain ⟨xa, xc, rfl⟩ := hx.shape
  obtain ⟨p1, p2, p3, p4, p5, q1, q2, q3, q4, q5, rfl⟩ := hv.shape
  unfold credV at m1 m2 m3
  unfold attrS attrV at m1 m2
  unfold credV attrS attrV
  have a1 : rngO c a uid gid = false → chownO c a kind uid gid = (622, attr0) := fun e => by unfold chownO; rw [e]; rfl
  have a2 : rngO c a uid gid = true → ownsO c a = false → chownO c a kind uid gid = (601, attr0) := fun e e2 => by unfold chownO; rw [e, e2]; rfl
  have a3 : rngO c a uid gid = true → ownsO c a = true → passO c a uid gid = false → chownO c a kind uid gid = (601, attr0) := fun e e2 e3 => by unfold chownO; rw [e, e2, e3]; rfl
  have a4 : rngO c a uid gid = true → ownsO c a = true → passO c a uid gid = true → chownO c a kind uid gid = (0, if kind = 1 then goesO (a.given uid gid) else a.given uid gid) := fun e e2 e3 => by unfold chownO; rw [e, e2, e3]; rfl
  generalize chownO c a kind uid gid = X at *
  refine Does_of_WD Try.func22 rfl (n := 85) rfl rfl (by simp only [argE, Nat.reduceAdd] <;> rfl) ?_
  (repeat (first | refine W_seq ?_))
  refine W_region rfl ?_
  (refine WL_box rfl rfl rfl rfl rfl rfl ?_; intro b_)
  generalize b_ = cb
  (refine WL_box rfl rfl rfl rfl rfl rfl ?_; intro b_)
  generalize b_ = ab
  (refine WL_alloc rfl rfl rfl rfl rfl rfl ?_; intro b_)
  generalize b_ = xb
  (refine WL_alloc rfl rfl rfl rfl rfl rfl ?_; intro b_)
  (repeat (first | refine WL_nil ?_ | refine Then_normal ?_ | refine W_seq ?_))
  generalize b_ = eb
  skip
  refine W_region rfl ?_
  refine WL_is (X_makeFunc rfl rfl rfl) rfl rfl rfl ?_
  refine WL_defer rfl rfl rfl rfl ?_
  (repeat (first | refine WL_nil ?_ | refine Then_normal ?_ | refine W_seq ?_))
  refine W_cutT (X := Unit) (L := fun _ => ⟨[(10, .pointer (some ⟨xb, 0, none⟩)), (11, .pointer (some ⟨eb, 0, none⟩)), (5, .pointer (some ⟨cb, 0, none⟩)), (6, .pointer (some ⟨ab, 0, none⟩)), (2, .int .u8 kind), (3, .int .i64 uid), (4, .int .i64 gid)], [dfr 53 #[.pointer (some ⟨xb, 0, none⟩), .pointer (some ⟨eb, 0, none⟩)]],
    [blk eb [.int .i64 0] 37, blk xb attrC0 31, blk ab (attrC a (.slice p1 a.acc.us.length q1) (.slice p2 a.acc.gs.length q2) (.slice p3 a.df.us.length q3) (.slice p4 a.df.gs.length q4) (.slice p5 a.xs.length q5)) 31, blk cb (credC c (.slice xa c.gs.length xc)) 25], h⟩) (fun _ => rngO c a uid gid = true) ?_ ?_
  · cases hmay : mayO c a with
    | false =>
      rw [hmay] at m1
      skip
      refine W_region rfl ?_
      refine WL_is (X_loadA rfl rfl (by exact idx3) rfl rfl rfl) rfl rfl rfl ?_
      refine WL_is (X_loadA rfl rfl (by exact idx2) rfl rfl rfl) rfl rfl rfl ?_
      refine WL_is (X_callv rfl rfl rfl Try.func38 rfl (by assumption)) rfl rfl rfl ?_
      refine WL_is (X_move rfl rfl) rfl rfl rfl ?_
      refine WL_off rfl rfl rfl ?_
      refine WL_off rfl rfl rfl ?_
      refine WL_is (X_pick_f rfl rfl rfl) rfl rfl rfl ?_
      refine WL_is (X_move rfl rfl) rfl rfl rfl ?_
      refine WL_off rfl rfl rfl ?_
      refine WL_off rfl rfl rfl ?_
      refine WL_is (X_pick_f rfl rfl rfl) rfl rfl rfl ?_
      refine WL_is (X_move rfl rfl) rfl rfl rfl ?_
      refine WL_off rfl rfl rfl ?_
      refine WL_off rfl rfl rfl ?_
      refine WL_is (X_pick_f rfl rfl rfl) rfl rfl rfl ?_
      refine WL_is (X_move rfl rfl) rfl rfl rfl ?_
      refine WL_off rfl rfl rfl ?_
      refine WL_off rfl rfl rfl ?_
      refine WL_is (X_pick_f rfl rfl rfl) rfl rfl rfl ?_
      refine WL_callP rfl rfl rfl Try.func37 rfl rfl rfl rfl (unless_fn h false 622) (fun _ _ _ _ hA => by cases hA.1) (fun ch R' h' hl hA => ?_) (fun _ _ hA => hA)
      obtain ⟨_, rfl, rfl⟩ := hA
      simp only [List.nil_append]
      (repeat (first | refine Then_panic ?_))
      refine fin_pan dp_Chown Try.func53 rfl (List.Perm.swap _ _ _) ?_
      intro h' hl
      refine RetOk_vals (.cons (.cellA rfl idx0 rfl rfl rfl) (.cons (.cell1 rfl idx1 rfl rfl) .nil)) rfl (UpdE.sub (SubR.none _) ?_)
      rw [a1 (by unfold rngO; rw [hmay]; rfl)]
      exact AnsO.bad h' 622
    | true =>
      rw [hmay] at m1
      by_cases k1 : -1 ≤ uid
      · by_cases k2 : uid ≤ 65535
        · by_cases k3 : -1 ≤ gid
          · by_cases k4 : gid ≤ 65535
            · skip
              refine W_region rfl ?_
              refine WL_is (X_loadA rfl rfl (by exact idx3) rfl rfl rfl) rfl rfl rfl ?_
              refine WL_is (X_loadA rfl rfl (by exact idx2) rfl rfl rfl) rfl rfl rfl ?_
              refine WL_is (X_callv rfl rfl rfl Try.func38 rfl (by assumption)) rfl rfl rfl ?_
              refine WL_is (X_move rfl rfl) rfl rfl rfl ?_
              refine WL_is (X_move rfl rfl) rfl rfl rfl ?_
              refine WL_is (X_geq_t rfl rfl rfl (by omega)) rfl rfl rfl ?_
              refine WL_is (X_pick_t rfl rfl rfl) rfl rfl rfl ?_
              refine WL_is (X_move rfl rfl) rfl rfl rfl ?_
              refine WL_is (X_move rfl rfl) rfl rfl rfl ?_
              refine WL_is (X_leq_t rfl rfl rfl (by omega)) rfl rfl rfl ?_
              refine WL_is (X_pick_t rfl rfl rfl) rfl rfl rfl ?_
              refine WL_is (X_move rfl rfl) rfl rfl rfl ?_
              refine WL_is (X_move rfl rfl) rfl rfl rfl ?_
              refine WL_is (X_geq_t rfl rfl rfl (by omega)) rfl rfl rfl ?_
              refine WL_is (X_pick_t rfl rfl rfl) rfl rfl rfl ?_
              refine WL_is (X_move rfl rfl) rfl rfl rfl ?_
              refine WL_is (X_move rfl rfl) rfl rfl rfl ?_
              refine WL_is (X_leq_t rfl rfl rfl (by omega)) rfl rfl rfl ?_
              refine WL_is (X_pick_t rfl rfl rfl) rfl rfl rfl ?_
              refine WL_is (X_callv rfl rfl rfl Try.func37 rfl (by assumption)) rfl rfl rfl ?_
              (repeat (first | refine WL_nil ?_ | refine Then_normal ?_))
              exact ⟨(), ⟨(by repeat (first | exact SubE_nil | refine SubE_cons rfl ?_)), rfl, SubR.refl _, rfl⟩, by unfold rngO; rw [hmay]; simp [k1, k2, k3, k4]⟩
            · skip
              refine W_region rfl ?_
              refine WL_is (X_loadA rfl rfl (by exact idx3) rfl rfl rfl) rfl rfl rfl ?_
              refine WL_is (X_loadA rfl rfl (by exact idx2) rfl rfl rfl) rfl rfl rfl ?_
              refine WL_is (X_callv rfl rfl rfl Try.func38 rfl (by assumption)) rfl rfl rfl ?_
              refine WL_is (X_move rfl rfl) rfl rfl rfl ?_
              refine WL_is (X_move rfl rfl) rfl rfl rfl ?_
              refine WL_is (X_geq_t rfl rfl rfl (by omega)) rfl rfl rfl ?_
              refine WL_is (X_pick_t rfl rfl rfl) rfl rfl rfl ?_
              refine WL_is (X_move rfl rfl) rfl rfl rfl ?_
              refine WL_is (X_move rfl rfl) rfl rfl rfl ?_
              refine WL_is (X_leq_t rfl rfl rfl (by omega)) rfl rfl rfl ?_
              refine WL_is (X_pick_t rfl rfl rfl) rfl rfl rfl ?_
              refine WL_is (X_move rfl rfl) rfl rfl rfl ?_
              refine WL_is (X_move rfl rfl) rfl rfl rfl ?_
              refine WL_is (X_geq_t rfl rfl rfl (by omega)) rfl rfl rfl ?_
              refine WL_is (X_pick_t rfl rfl rfl) rfl rfl rfl ?_
              refine WL_is (X_move rfl rfl) rfl rfl rfl ?_
              refine WL_is (X_move rfl rfl) rfl rfl rfl ?_
              refine WL_is (X_leq_f rfl rfl rfl (by omega)) rfl rfl rfl ?_
              refine WL_is (X_pick_t rfl rfl rfl) rfl rfl rfl ?_
              refine WL_callP rfl rfl rfl Try.func37 rfl rfl rfl rfl (unless_fn h false 622) (fun _ _ _ _ hA => by cases hA.1) (fun ch R' h' hl hA => ?_) (fun _ _ hA => hA)
              obtain ⟨_, rfl, rfl⟩ := hA
              simp only [List.nil_append]
              (repeat (first | refine Then_panic ?_))
              refine fin_pan dp_Chown Try.func53 rfl (List.Perm.swap _ _ _) ?_
              intro h' hl
              refine RetOk_vals (.cons (.cellA rfl idx0 rfl rfl rfl) (.cons (.cell1 rfl idx1 rfl rfl) .nil)) rfl (UpdE.sub (SubR.none _) ?_)
              rw [a1 (by unfold rngO; simp [k4])]
              exact AnsO.bad h' 622
          · skip
            refine W_region rfl ?_
            refine WL_is (X_loadA rfl rfl (by exact idx3) rfl rfl rfl) rfl rfl rfl ?_
            refine WL_is (X_loadA rfl rfl (by exact idx2) rfl rfl rfl) rfl rfl rfl ?_
            refine WL_is (X_callv rfl rfl rfl Try.func38 rfl (by assumption)) rfl rfl rfl ?_
            refine WL_is (X_move rfl rfl) rfl rfl rfl ?_
            refine WL_is (X_move rfl rfl) rfl rfl rfl ?_
            refine WL_is (X_geq_t rfl rfl rfl (by omega)) rfl rfl rfl ?_
            refine WL_is (X_pick_t rfl rfl rfl) rfl rfl rfl ?_
            refine WL_is (X_move rfl rfl) rfl rfl rfl ?_
            refine WL_is (X_move rfl rfl) rfl rfl rfl ?_
            refine WL_is (X_leq_t rfl rfl rfl (by omega)) rfl rfl rfl ?_
            refine WL_is (X_pick_t rfl rfl rfl) rfl rfl rfl ?_
            refine WL_is (X_move rfl rfl) rfl rfl rfl ?_
            refine WL_is (X_move rfl rfl) rfl rfl rfl ?_
            refine WL_is (X_geq_f rfl rfl rfl (by omega)) rfl rfl rfl ?_
            refine WL_is (X_pick_t rfl rfl rfl) rfl rfl rfl ?_
            refine WL_is (X_move rfl rfl) rfl rfl rfl ?_
            refine WL_off rfl rfl rfl ?_
            refine WL_off rfl rfl rfl ?_
            refine WL_is (X_pick_f rfl rfl rfl) rfl rfl rfl ?_
            refine WL_callP rfl rfl rfl Try.func37 rfl rfl rfl rfl (unless_fn h false 622) (fun _ _ _ _ hA => by cases hA.1) (fun ch R' h' hl hA => ?_) (fun _ _ hA => hA)
            obtain ⟨_, rfl, rfl⟩ := hA
            simp only [List.nil_append]
            (repeat (first | refine Then_panic ?_))
            refine fin_pan dp_Chown Try.func53 rfl (List.Perm.swap _ _ _) ?_
            intro h' hl
            refine RetOk_vals (.cons (.cellA rfl idx0 rfl rfl rfl) (.cons (.cell1 rfl idx1 rfl rfl) .nil)) rfl (UpdE.sub (SubR.none _) ?_)
            rw [a1 (by unfold rngO; simp [k3])]
            exact AnsO.bad h' 622
        · skip
          refine W_region rfl ?_
          refine WL_is (X_loadA rfl rfl (by exact idx3) rfl rfl rfl) rfl rfl rfl ?_
          refine WL_is (X_loadA rfl rfl (by exact idx2) rfl rfl rfl) rfl rfl rfl ?_
          refine WL_is (X_callv rfl rfl rfl Try.func38 rfl (by assumption)) rfl rfl rfl ?_
          refine WL_is (X_move rfl rfl) rfl rfl rfl ?_
          refine WL_is (X_move rfl rfl) rfl rfl rfl ?_
          refine WL_is (X_geq_t rfl rfl rfl (by omega)) rfl rfl rfl ?_
          refine WL_is (X_pick_t rfl rfl rfl) rfl rfl rfl ?_
          refine WL_is (X_move rfl rfl) rfl rfl rfl ?_
          refine WL_is (X_move rfl rfl) rfl rfl rfl ?_
          refine WL_is (X_leq_f rfl rfl rfl (by omega)) rfl rfl rfl ?_
          refine WL_is (X_pick_t rfl rfl rfl) rfl rfl rfl ?_
          refine WL_is (X_move rfl rfl) rfl rfl rfl ?_
          refine WL_off rfl rfl rfl ?_
          refine WL_off rfl rfl rfl ?_
          refine WL_is (X_pick_f rfl rfl rfl) rfl rfl rfl ?_
          refine WL_is (X_move rfl rfl) rfl rfl rfl ?_
          refine WL_off rfl rfl rfl ?_
          refine WL_off rfl rfl rfl ?_
          refine WL_is (X_pick_f rfl rfl rfl) rfl rfl rfl ?_
          refine WL_callP rfl rfl rfl Try.func37 rfl rfl rfl rfl (unless_fn h false 622) (fun _ _ _ _ hA => by cases hA.1) (fun ch R' h' hl hA => ?_) (fun _ _ hA => hA)
          obtain ⟨_, rfl, rfl⟩ := hA
          simp only [List.nil_append]
          (repeat (first | refine Then_panic ?_))
          refine fin_pan dp_Chown Try.func53 rfl (List.Perm.swap _ _ _) ?_
          intro h' hl
          refine RetOk_vals (.cons (.cellA rfl idx0 rfl rfl rfl) (.cons (.cell1 rfl idx1 rfl rfl) .nil)) rfl (UpdE.sub (SubR.none _) ?_)
          rw [a1 (by unfold rngO; simp [k2])]
          exact AnsO.bad h' 622
      · skip
        refine W_region rfl ?_
        refine WL_is (X_loadA rfl rfl (by exact idx3) rfl rfl rfl) rfl rfl rfl ?_
        refine WL_is (X_loadA rfl rfl (by exact idx2) rfl rfl rfl) rfl rfl rfl ?_
        refine WL_is (X_callv rfl rfl rfl Try.func38 rfl (by assumption)) rfl rfl rfl ?_
        refine WL_is (X_move rfl rfl) rfl rfl rfl ?_
        refine WL_is (X_move rfl rfl) rfl rfl rfl ?_
        refine WL_is (X_geq_f rfl rfl rfl (by omega)) rfl rfl rfl ?_
        refine WL_is (X_pick_t rfl rfl rfl) rfl rfl rfl ?_
        refine WL_is (X_move rfl rfl) rfl rfl rfl ?_
        refine WL_off rfl rfl rfl ?_
        refine WL_off rfl rfl rfl ?_
        refine WL_is (X_pick_f rfl rfl rfl) rfl rfl rfl ?_
        refine WL_is (X_move rfl rfl) rfl rfl rfl ?_
        refine WL_off rfl rfl rfl ?_
        refine WL_off rfl rfl rfl ?_
        refine WL_is (X_pick_f rfl rfl rfl) rfl rfl rfl ?_
        refine WL_is (X_move rfl rfl) rfl rfl rfl ?_
        refine WL_off rfl rfl rfl ?_
        refine WL_off rfl rfl rfl ?_
        refine WL_is (X_pick_f rfl rfl rfl) rfl rfl rfl ?_
        refine WL_callP rfl rfl rfl Try.func37 rfl rfl rfl rfl (unless_fn h false 622) (fun _ _ _ _ hA => by cases hA.1) (fun ch R' h' hl hA => ?_) (fun _ _ hA => hA)
        obtain ⟨_, rfl, rfl⟩ := hA
        simp only [List.nil_append]
        (repeat (first | refine Then_panic ?_))
        refine fin_pan dp_Chown Try.func53 rfl (List.Perm.swap _ _ _) ?_
        intro h' hl
        refine RetOk_vals (.cons (.cellA rfl idx0 rfl rfl rfl) (.cons (.cell1 rfl idx1 rfl rfl) .nil)) rfl (UpdE.sub (SubR.none _) ?_)
        rw [a1 (by unfold rngO; simp [k1])]
        exact AnsO.bad h' 622
  rintro _ hrng
  have hr := hrng
  unfold rngO at hr
  simp only [Bool.and_eq_true, decide_eq_true_eq] at hr
  obtain ⟨hmay, k1, k2, k3, k4⟩ := hr
  cases hown : ownsO c a with
  | false =>
    rw [hown] at m2
    (repeat (first | refine W_seq ?_))
    refine W_region rfl ?_
    refine WL_is (X_loadA rfl rfl (by exact idx3) rfl rfl rfl) rfl rfl rfl ?_
    refine WL_is (X_loadA rfl rfl (by exact idx2) rfl rfl rfl) rfl rfl rfl ?_
    refine WL_is (X_callv rfl rfl rfl Try.func39 rfl (by assumption)) rfl rfl rfl ?_
    refine WL_callP rfl rfl rfl Try.func37 rfl rfl rfl rfl (unless_fn h false 601) (fun _ _ _ _ hA => by cases hA.1) (fun ch R' h' hl hA => ?_) (fun _ _ hA => hA)
    obtain ⟨_, rfl, rfl⟩ := hA
    simp only [List.nil_append]
    (repeat (first | refine Then_panic ?_))
    refine fin_pan dp_Chown Try.func53 rfl (List.Perm.swap _ _ _) ?_
    intro h' hl
    refine RetOk_vals (.cons (.cellA rfl idx0 rfl rfl rfl) (.cons (.cell1 rfl idx1 rfl rfl) .nil)) rfl (UpdE.sub (SubR.none _) ?_)
    rw [a2 hrng hown]
    exact AnsO.bad h' 601
  | true =>
    rw [hown] at m2
    (repeat (first | refine W_seq ?_))
    refine W_region rfl ?_
    refine WL_is (X_loadA rfl rfl (by exact idx3) rfl rfl rfl) rfl rfl rfl ?_
    refine WL_is (X_loadA rfl rfl (by exact idx2) rfl rfl rfl) rfl rfl rfl ?_
    refine WL_is (X_callv rfl rfl rfl Try.func39 rfl (by assumption)) rfl rfl rfl ?_
    refine WL_is (X_callv rfl rfl rfl Try.func37 rfl (by assumption)) rfl rfl rfl ?_
    (repeat (first | refine WL_nil ?_ | refine Then_normal ?_ | refine W_seq ?_))
    refine W_cutT (X := Unit) (L := fun _ => ⟨[(10, .pointer (some ⟨xb, 0, none⟩)), (11, .pointer (some ⟨eb, 0, none⟩)), (5, .pointer (some ⟨cb, 0, none⟩)), (6, .pointer (some ⟨ab, 0, none⟩)), (2, .int .u8 kind), (3, .int .i64 uid), (4, .int .i64 gid)], [dfr 53 #[.pointer (some ⟨xb, 0, none⟩), .pointer (some ⟨eb, 0, none⟩)]],
    [blk eb [.int .i64 0] 37, blk xb attrC0 31, blk ab (attrC a (.slice p1 a.acc.us.length q1) (.slice p2 a.acc.gs.length q2) (.slice p3 a.df.us.length q3) (.slice p4 a.df.gs.length q4) (.slice p5 a.xs.length q5)) 31, blk cb (credC c (.slice xa c.gs.length xc)) 25], h⟩) (fun _ => passO c a uid gid = true) ?_ ?_
    · by_cases j0 : c.uid = 0
      · skip
        refine W_region rfl ?_
        refine WL_is (X_fieldAddr rfl rfl rfl (by simp only [Nat.zero_add] <;> rfl)) rfl rfl rfl ?_
        refine WL_is (X_load1 rfl rfl (by exact idx3) rfl rfl) rfl rfl rfl ?_
        refine WL_is (X_eql_t rfl rfl rfl (by omega)) rfl rfl rfl ?_
        refine WL_is (X_move rfl rfl) rfl rfl rfl ?_
        refine WL_off rfl rfl rfl ?_
        refine WL_off rfl rfl rfl ?_
        refine WL_off rfl rfl rfl ?_
        refine WL_off rfl rfl rfl ?_
        refine WL_off rfl rfl rfl ?_
        refine WL_off rfl rfl rfl ?_
        refine WL_off rfl rfl rfl ?_
        refine WL_off rfl rfl rfl ?_
        refine WL_off rfl rfl rfl ?_
        refine WL_off rfl rfl rfl ?_
        refine WL_off rfl rfl rfl ?_
        refine WL_off rfl rfl rfl ?_
        refine WL_off rfl rfl rfl ?_
        refine WL_off rfl rfl rfl ?_
        refine WL_off rfl rfl rfl ?_
        refine WL_off rfl rfl rfl ?_
        refine WL_off rfl rfl rfl ?_
        refine WL_off rfl rfl rfl ?_
        refine WL_off rfl rfl rfl ?_
        refine WL_off rfl rfl rfl ?_
        refine WL_off rfl rfl rfl ?_
        refine WL_off rfl rfl rfl ?_
        refine WL_off rfl rfl rfl ?_
        refine WL_off rfl rfl rfl ?_
        refine WL_off rfl rfl rfl ?_
        refine WL_off rfl rfl rfl ?_
        refine WL_is (X_pick_t rfl rfl rfl) rfl rfl rfl ?_
        refine WL_is (X_callv rfl rfl rfl Try.func37 rfl (by assumption)) rfl rfl rfl ?_
        (repeat (first | refine WL_nil ?_ | refine Then_normal ?_))
        exact ⟨(), ⟨(by repeat (first | exact SubE_nil | refine SubE_cons rfl ?_)), rfl, SubR.refl _, rfl⟩, by unfold passO; simp [j0]⟩
      · by_cases j1 : uid = -1
        · by_cases g1 : gid = -1
          · skip
            refine W_region rfl ?_
            refine WL_is (X_fieldAddr rfl rfl rfl (by simp only [Nat.zero_add] <;> rfl)) rfl rfl rfl ?_
            refine WL_is (X_load1 rfl rfl (by exact idx3) rfl rfl) rfl rfl rfl ?_
            refine WL_is (X_eql_f rfl rfl rfl (by omega)) rfl rfl rfl ?_
            refine WL_is (X_move rfl rfl) rfl rfl rfl ?_
            refine WL_is (X_move rfl rfl) rfl rfl rfl ?_
            refine WL_is (X_eql_t rfl rfl rfl (by omega)) rfl rfl rfl ?_
            refine WL_is (X_move rfl rfl) rfl rfl rfl ?_
            refine WL_off rfl rfl rfl ?_
            refine WL_off rfl rfl rfl ?_
            refine WL_off rfl rfl rfl ?_
            refine WL_off rfl rfl rfl ?_
            refine WL_off rfl rfl rfl ?_
            refine WL_is (X_pick_t rfl rfl rfl) rfl rfl rfl ?_
            refine WL_is (X_move rfl rfl) rfl rfl rfl ?_
            refine WL_is (X_move rfl rfl) rfl rfl rfl ?_
            refine WL_is (X_eql_t rfl rfl rfl (by omega)) rfl rfl rfl ?_
            refine WL_is (X_move rfl rfl) rfl rfl rfl ?_
            refine WL_off rfl rfl rfl ?_
            refine WL_off rfl rfl rfl ?_
            refine WL_off rfl rfl rfl ?_
            refine WL_off rfl rfl rfl ?_
            refine WL_off rfl rfl rfl ?_
            refine WL_is (X_pick_t rfl rfl rfl) rfl rfl rfl ?_
            refine WL_is (X_move rfl rfl) rfl rfl rfl ?_
            refine WL_off rfl rfl rfl ?_
            refine WL_off rfl rfl rfl ?_
            refine WL_off rfl rfl rfl ?_
            refine WL_off rfl rfl rfl ?_
            refine WL_is (X_pick_t rfl rfl rfl) rfl rfl rfl ?_
            refine WL_is (X_pick_t rfl rfl rfl) rfl rfl rfl ?_
            refine WL_is (X_pick_f rfl rfl rfl) rfl rfl rfl ?_
            refine WL_is (X_callv rfl rfl rfl Try.func37 rfl (by assumption)) rfl rfl rfl ?_
            (repeat (first | refine WL_nil ?_ | refine Then_normal ?_))
            exact ⟨(), ⟨(by repeat (first | exact SubE_nil | refine SubE_cons rfl ?_)), rfl, SubR.refl _, rfl⟩, by unfold passO; simp [j1, g1]⟩
          · by_cases g2 : gid = a.gid
            · skip
              refine W_region rfl ?_
              refine WL_is (X_fieldAddr rfl rfl rfl (by simp only [Nat.zero_add] <;> rfl)) rfl rfl rfl ?_
              refine WL_is (X_load1 rfl rfl (by exact idx3) rfl rfl) rfl rfl rfl ?_
              refine WL_is (X_eql_f rfl rfl rfl (by omega)) rfl rfl rfl ?_
              refine WL_is (X_move rfl rfl) rfl rfl rfl ?_
              refine WL_is (X_move rfl rfl) rfl rfl rfl ?_
              refine WL_is (X_eql_t rfl rfl rfl (by omega)) rfl rfl rfl ?_
              refine WL_is (X_move rfl rfl) rfl rfl rfl ?_
              refine WL_off rfl rfl rfl ?_
              refine WL_off rfl rfl rfl ?_
              refine WL_off rfl rfl rfl ?_
              refine WL_off rfl rfl rfl ?_
              refine WL_off rfl rfl rfl ?_
              refine WL_is (X_pick_t rfl rfl rfl) rfl rfl rfl ?_
              refine WL_is (X_move rfl rfl) rfl rfl rfl ?_
              refine WL_is (X_move rfl rfl) rfl rfl rfl ?_
              refine WL_is (X_eql_f rfl rfl rfl (by omega)) rfl rfl rfl ?_
              refine WL_is (X_move rfl rfl) rfl rfl rfl ?_
              refine WL_is (X_move rfl rfl) rfl rfl rfl ?_
              refine WL_is (X_fieldAddr rfl rfl rfl (by simp only [Nat.zero_add] <;> rfl)) rfl rfl rfl ?_
              refine WL_is (X_load1 rfl rfl (by exact idx2) rfl rfl) rfl rfl rfl ?_
              refine WL_is (X_convW rfl rfl rfl rfl (by exact wrap_i64_in (by omega) (by omega))) rfl rfl rfl ?_
              refine WL_is (X_eql_t rfl rfl rfl (by omega)) rfl rfl rfl ?_
              refine WL_is (X_pick_f rfl rfl rfl) rfl rfl rfl ?_
              refine WL_is (X_move rfl rfl) rfl rfl rfl ?_
              refine WL_off rfl rfl rfl ?_
              refine WL_off rfl rfl rfl ?_
              refine WL_off rfl rfl rfl ?_
              refine WL_off rfl rfl rfl ?_
              refine WL_is (X_pick_t rfl rfl rfl) rfl rfl rfl ?_
              refine WL_is (X_pick_t rfl rfl rfl) rfl rfl rfl ?_
              refine WL_is (X_pick_f rfl rfl rfl) rfl rfl rfl ?_
              refine WL_is (X_callv rfl rfl rfl Try.func37 rfl (by assumption)) rfl rfl rfl ?_
              (repeat (first | refine WL_nil ?_ | refine Then_normal ?_))
              exact ⟨(), ⟨(by repeat (first | exact SubE_nil | refine SubE_cons rfl ?_)), rfl, SubR.refl _, rfl⟩, by unfold passO; simp [j1, g2]⟩
            · cases g3 : c.inB gid with
              | true =>
                rw [g3] at m3
                skip
                refine W_region rfl ?_
                refine WL_is (X_fieldAddr rfl rfl rfl (by simp only [Nat.zero_add] <;> rfl)) rfl rfl rfl ?_
                refine WL_is (X_load1 rfl rfl (by exact idx3) rfl rfl) rfl rfl rfl ?_
                refine WL_is (X_eql_f rfl rfl rfl (by omega)) rfl rfl rfl ?_
                refine WL_is (X_move rfl rfl) rfl rfl rfl ?_
                refine WL_is (X_move rfl rfl) rfl rfl rfl ?_
                refine WL_is (X_eql_t rfl rfl rfl (by omega)) rfl rfl rfl ?_
                refine WL_is (X_move rfl rfl) rfl rfl rfl ?_
                refine WL_off rfl rfl rfl ?_
                refine WL_off rfl rfl rfl ?_
                refine WL_off rfl rfl rfl ?_
                refine WL_off rfl rfl rfl ?_
                refine WL_off rfl rfl rfl ?_
                refine WL_is (X_pick_t rfl rfl rfl) rfl rfl rfl ?_
                refine WL_is (X_move rfl rfl) rfl rfl rfl ?_
                refine WL_is (X_move rfl rfl) rfl rfl rfl ?_
                refine WL_is (X_eql_f rfl rfl rfl (by omega)) rfl rfl rfl ?_
                refine WL_is (X_move rfl rfl) rfl rfl rfl ?_
                refine WL_is (X_move rfl rfl) rfl rfl rfl ?_
                refine WL_is (X_fieldAddr rfl rfl rfl (by simp only [Nat.zero_add] <;> rfl)) rfl rfl rfl ?_
                refine WL_is (X_load1 rfl rfl (by exact idx2) rfl rfl) rfl rfl rfl ?_
                refine WL_is (X_convW rfl rfl rfl rfl (by exact wrap_i64_in (by omega) (by omega))) rfl rfl rfl ?_
                refine WL_is (X_eql_f rfl rfl rfl (by omega)) rfl rfl rfl ?_
                refine WL_is (X_pick_f rfl rfl rfl) rfl rfl rfl ?_
                refine WL_is (X_move rfl rfl) rfl rfl rfl ?_
                refine WL_is (X_loadA rfl rfl (by exact idx3) rfl rfl rfl) rfl rfl rfl ?_
                refine WL_is (X_move rfl rfl) rfl rfl rfl ?_
                refine WL_is (X_convW rfl rfl rfl rfl (by exact wrap_u16_in (by omega) (by omega))) rfl rfl rfl ?_
                refine WL_is (X_callv rfl rfl rfl Try.func54 rfl (by assumption)) rfl rfl rfl ?_
                refine WL_is (X_pick_f rfl rfl rfl) rfl rfl rfl ?_
                refine WL_is (X_pick_t rfl rfl rfl) rfl rfl rfl ?_
                refine WL_is (X_pick_f rfl rfl rfl) rfl rfl rfl ?_
                refine WL_is (X_callv rfl rfl rfl Try.func37 rfl (by assumption)) rfl rfl rfl ?_
                (repeat (first | refine WL_nil ?_ | refine Then_normal ?_))
                exact ⟨(), ⟨(by repeat (first | exact SubE_nil | refine SubE_cons rfl ?_)), rfl, SubR.refl _, rfl⟩, by unfold passO; rw [g3]; simp [j1]⟩
              | false =>
                rw [g3] at m3
                skip
                refine W_region rfl ?_
                refine WL_is (X_fieldAddr rfl rfl rfl (by simp only [Nat.zero_add] <;> rfl)) rfl rfl rfl ?_
                refine WL_is (X_load1 rfl rfl (by exact idx3) rfl rfl) rfl rfl rfl ?_
                refine WL_is (X_eql_f rfl rfl rfl (by omega)) rfl rfl rfl ?_
                refine WL_is (X_move rfl rfl) rfl rfl rfl ?_
                refine WL_is (X_move rfl rfl) rfl rfl rfl ?_
                refine WL_is (X_eql_t rfl rfl rfl (by omega)) rfl rfl rfl ?_
                refine WL_is (X_move rfl rfl) rfl rfl rfl ?_
                refine WL_off rfl rfl rfl ?_
                refine WL_off rfl rfl rfl ?_
                refine WL_off rfl rfl rfl ?_
                refine WL_off rfl rfl rfl ?_
                refine WL_off rfl rfl rfl ?_
                refine WL_is (X_pick_t rfl rfl rfl) rfl rfl rfl ?_
                refine WL_is (X_move rfl rfl) rfl rfl rfl ?_
                refine WL_is (X_move rfl rfl) rfl rfl rfl ?_
                refine WL_is (X_eql_f rfl rfl rfl (by omega)) rfl rfl rfl ?_
                refine WL_is (X_move rfl rfl) rfl rfl rfl ?_
                refine WL_is (X_move rfl rfl) rfl rfl rfl ?_
                refine WL_is (X_fieldAddr rfl rfl rfl (by simp only [Nat.zero_add] <;> rfl)) rfl rfl rfl ?_
                refine WL_is (X_load1 rfl rfl (by exact idx2) rfl rfl) rfl rfl rfl ?_
                refine WL_is (X_convW rfl rfl rfl rfl (by exact wrap_i64_in (by omega) (by omega))) rfl rfl rfl ?_
                refine WL_is (X_eql_f rfl rfl rfl (by omega)) rfl rfl rfl ?_
                refine WL_is (X_pick_f rfl rfl rfl) rfl rfl rfl ?_
                refine WL_is (X_move rfl rfl) rfl rfl rfl ?_
                refine WL_is (X_loadA rfl rfl (by exact idx3) rfl rfl rfl) rfl rfl rfl ?_
                refine WL_is (X_move rfl rfl) rfl rfl rfl ?_
                refine WL_is (X_convW rfl rfl rfl rfl (by exact wrap_u16_in (by omega) (by omega))) rfl rfl rfl ?_
                refine WL_is (X_callv rfl rfl rfl Try.func54 rfl (by assumption)) rfl rfl rfl ?_
                refine WL_is (X_pick_f rfl rfl rfl) rfl rfl rfl ?_
                refine WL_is (X_pick_t rfl rfl rfl) rfl rfl rfl ?_
                refine WL_is (X_pick_f rfl rfl rfl) rfl rfl rfl ?_
                refine WL_callP rfl rfl rfl Try.func37 rfl rfl rfl rfl (unless_fn h false 601) (fun _ _ _ _ hA => by cases hA.1) (fun ch R' h' hl hA => ?_) (fun _ _ hA => hA)
                obtain ⟨_, rfl, rfl⟩ := hA
                simp only [List.nil_append]
                (repeat (first | refine Then_panic ?_))
                refine fin_pan dp_Chown Try.func53 rfl (List.Perm.swap _ _ _) ?_
                intro h' hl
                refine RetOk_vals (.cons (.cellA rfl idx0 rfl rfl rfl) (.cons (.cell1 rfl idx1 rfl rfl) .nil)) rfl (UpdE.sub (SubR.none _) ?_)
                rw [a3 hrng hown (by unfold passO; rw [g3]; simp [j0, g1, g2])]
                exact AnsO.bad h' 601
        · by_cases j2 : uid = a.uid
          · by_cases g1 : gid = -1
            · skip
              refine W_region rfl ?_
              refine WL_is (X_fieldAddr rfl rfl rfl (by simp only [Nat.zero_add] <;> rfl)) rfl rfl rfl ?_
              refine WL_is (X_load1 rfl rfl (by exact idx3) rfl rfl) rfl rfl rfl ?_
              refine WL_is (X_eql_f rfl rfl rfl (by omega)) rfl rfl rfl ?_
              refine WL_is (X_move rfl rfl) rfl rfl rfl ?_
              refine WL_is (X_move rfl rfl) rfl rfl rfl ?_
              refine WL_is (X_eql_f rfl rfl rfl (by omega)) rfl rfl rfl ?_
              refine WL_is (X_move rfl rfl) rfl rfl rfl ?_
              refine WL_is (X_move rfl rfl) rfl rfl rfl ?_
              refine WL_is (X_fieldAddr rfl rfl rfl (by simp only [Nat.zero_add] <;> rfl)) rfl rfl rfl ?_
              refine WL_is (X_load1 rfl rfl (by exact idx2) rfl rfl) rfl rfl rfl ?_
              refine WL_is (X_convW rfl rfl rfl rfl (by exact wrap_i64_in (by omega) (by omega))) rfl rfl rfl ?_
              refine WL_is (X_eql_t rfl rfl rfl (by omega)) rfl rfl rfl ?_
              refine WL_is (X_pick_f rfl rfl rfl) rfl rfl rfl ?_
              refine WL_is (X_move rfl rfl) rfl rfl rfl ?_
              refine WL_is (X_move rfl rfl) rfl rfl rfl ?_
              refine WL_is (X_eql_t rfl rfl rfl (by omega)) rfl rfl rfl ?_
              refine WL_is (X_move rfl rfl) rfl rfl rfl ?_
              refine WL_off rfl rfl rfl ?_
              refine WL_off rfl rfl rfl ?_
              refine WL_off rfl rfl rfl ?_
              refine WL_off rfl rfl rfl ?_
              refine WL_off rfl rfl rfl ?_
              refine WL_is (X_pick_t rfl rfl rfl) rfl rfl rfl ?_
              refine WL_is (X_move rfl rfl) rfl rfl rfl ?_
              refine WL_off rfl rfl rfl ?_
              refine WL_off rfl rfl rfl ?_
              refine WL_off rfl rfl rfl ?_
              refine WL_off rfl rfl rfl ?_
              refine WL_is (X_pick_t rfl rfl rfl) rfl rfl rfl ?_
              refine WL_is (X_pick_t rfl rfl rfl) rfl rfl rfl ?_
              refine WL_is (X_pick_f rfl rfl rfl) rfl rfl rfl ?_
              refine WL_is (X_callv rfl rfl rfl Try.func37 rfl (by assumption)) rfl rfl rfl ?_
              (repeat (first | refine WL_nil ?_ | refine Then_normal ?_))
              exact ⟨(), ⟨(by repeat (first | exact SubE_nil | refine SubE_cons rfl ?_)), rfl, SubR.refl _, rfl⟩, by unfold passO; simp [j2, g1]⟩
            · by_cases g2 : gid = a.gid
              · skip
                refine W_region rfl ?_
                refine WL_is (X_fieldAddr rfl rfl rfl (by simp only [Nat.zero_add] <;> rfl)) rfl rfl rfl ?_
                refine WL_is (X_load1 rfl rfl (by exact idx3) rfl rfl) rfl rfl rfl ?_
                refine WL_is (X_eql_f rfl rfl rfl (by omega)) rfl rfl rfl ?_
                refine WL_is (X_move rfl rfl) rfl rfl rfl ?_
                refine WL_is (X_move rfl rfl) rfl rfl rfl ?_
                refine WL_is (X_eql_f rfl rfl rfl (by omega)) rfl rfl rfl ?_
                refine WL_is (X_move rfl rfl) rfl rfl rfl ?_
                refine WL_is (X_move rfl rfl) rfl rfl rfl ?_
                refine WL_is (X_fieldAddr rfl rfl rfl (by simp only [Nat.zero_add] <;> rfl)) rfl rfl rfl ?_
                refine WL_is (X_load1 rfl rfl (by exact idx2) rfl rfl) rfl rfl rfl ?_
                refine WL_is (X_convW rfl rfl rfl rfl (by exact wrap_i64_in (by omega) (by omega))) rfl rfl rfl ?_
                refine WL_is (X_eql_t rfl rfl rfl (by omega)) rfl rfl rfl ?_
                refine WL_is (X_pick_f rfl rfl rfl) rfl rfl rfl ?_
                refine WL_is (X_move rfl rfl) rfl rfl rfl ?_
                refine WL_is (X_move rfl rfl) rfl rfl rfl ?_
                refine WL_is (X_eql_f rfl rfl rfl (by omega)) rfl rfl rfl ?_
                refine WL_is (X_move rfl rfl) rfl rfl rfl ?_
                refine WL_is (X_move rfl rfl) rfl rfl rfl ?_
                refine WL_is (X_fieldAddr rfl rfl rfl (by simp only [Nat.zero_add] <;> rfl)) rfl rfl rfl ?_
                refine WL_is (X_load1 rfl rfl (by exact idx2) rfl rfl) rfl rfl rfl ?_
                refine WL_is (X_convW rfl rfl rfl rfl (by exact wrap_i64_in (by omega) (by omega))) rfl rfl rfl ?_
                refine WL_is (X_eql_t rfl rfl rfl (by omega)) rfl rfl rfl ?_
                refine WL_is (X_pick_f rfl rfl rfl) rfl rfl rfl ?_
                refine WL_is (X_move rfl rfl) rfl rfl rfl ?_
                refine WL_off rfl rfl rfl ?_
                refine WL_off rfl rfl rfl ?_
                refine WL_off rfl rfl rfl ?_
                refine WL_off rfl rfl rfl ?_
                refine WL_is (X_pick_t rfl rfl rfl) rfl rfl rfl ?_
                refine WL_is (X_pick_t rfl rfl rfl) rfl rfl rfl ?_
                refine WL_is (X_pick_f rfl rfl rfl) rfl rfl rfl ?_
                refine WL_is (X_callv rfl rfl rfl Try.func37 rfl (by assumption)) rfl rfl rfl ?_
                (repeat (first | refine WL_nil ?_ | refine Then_normal ?_))
                exact ⟨(), ⟨(by repeat (first | exact SubE_nil | refine SubE_cons rfl ?_)), rfl, SubR.refl _, rfl⟩, by unfold passO; simp [j2, g2]⟩
              · cases g3 : c.inB gid with
                | true =>
                  rw [g3] at m3
                  skip
                  refine W_region rfl ?_
                  refine WL_is (X_fieldAddr rfl rfl rfl (by simp only [Nat.zero_add] <;> rfl)) rfl rfl rfl ?_
                  refine WL_is (X_load1 rfl rfl (by exact idx3) rfl rfl) rfl rfl rfl ?_
                  refine WL_is (X_eql_f rfl rfl rfl (by omega)) rfl rfl rfl ?_
                  refine WL_is (X_move rfl rfl) rfl rfl rfl ?_
                  refine WL_is (X_move rfl rfl) rfl rfl rfl ?_
                  refine WL_is (X_eql_f rfl rfl rfl (by omega)) rfl rfl rfl ?_
                  refine WL_is (X_move rfl rfl) rfl rfl rfl ?_
                  refine WL_is (X_move rfl rfl) rfl rfl rfl ?_
                  refine WL_is (X_fieldAddr rfl rfl rfl (by simp only [Nat.zero_add] <;> rfl)) rfl rfl rfl ?_
                  refine WL_is (X_load1 rfl rfl (by exact idx2) rfl rfl) rfl rfl rfl ?_
                  refine WL_is (X_convW rfl rfl rfl rfl (by exact wrap_i64_in (by omega) (by omega))) rfl rfl rfl ?_
                  refine WL_is (X_eql_t rfl rfl rfl (by omega)) rfl rfl rfl ?_
                  refine WL_is (X_pick_f rfl rfl rfl) rfl rfl rfl ?_
                  refine WL_is (X_move rfl rfl) rfl rfl rfl ?_
                  refine WL_is (X_move rfl rfl) rfl rfl rfl ?_
                  refine WL_is (X_eql_f rfl rfl rfl (by omega)) rfl rfl rfl ?_
                  refine WL_is (X_move rfl rfl) rfl rfl rfl ?_
                  refine WL_is (X_move rfl rfl) rfl rfl rfl ?_
                  refine WL_is (X_fieldAddr rfl rfl rfl (by simp only [Nat.zero_add] <;> rfl)) rfl rfl rfl ?_
                  refine WL_is (X_load1 rfl rfl (by exact idx2) rfl rfl) rfl rfl rfl ?_
                  refine WL_is (X_convW rfl rfl rfl rfl (by exact wrap_i64_in (by omega) (by omega))) rfl rfl rfl ?_
                  refine WL_is (X_eql_f rfl rfl rfl (by omega)) rfl rfl rfl ?_
                  refine WL_is (X_pick_f rfl rfl rfl) rfl rfl rfl ?_
                  refine WL_is (X_move rfl rfl) rfl rfl rfl ?_
                  refine WL_is (X_loadA rfl rfl (by exact idx3) rfl rfl rfl) rfl rfl rfl ?_
                  refine WL_is (X_move rfl rfl) rfl rfl rfl ?_
                  refine WL_is (X_convW rfl rfl rfl rfl (by exact wrap_u16_in (by omega) (by omega))) rfl rfl rfl ?_
                  refine WL_is (X_callv rfl rfl rfl Try.func54 rfl (by assumption)) rfl rfl rfl ?_
                  refine WL_is (X_pick_f rfl rfl rfl) rfl rfl rfl ?_
                  refine WL_is (X_pick_t rfl rfl rfl) rfl rfl rfl ?_
                  refine WL_is (X_pick_f rfl rfl rfl) rfl rfl rfl ?_
                  refine WL_is (X_callv rfl rfl rfl Try.func37 rfl (by assumption)) rfl rfl rfl ?_
                  (repeat (first | refine WL_nil ?_ | refine Then_normal ?_))
                  exact ⟨(), ⟨(by repeat (first | exact SubE_nil | refine SubE_cons rfl ?_)), rfl, SubR.refl _, rfl⟩, by unfold passO; rw [g3]; simp [j2]⟩
                | false =>
                  rw [g3] at m3
                  skip
                  refine W_region rfl ?_
                  refine WL_is (X_fieldAddr rfl rfl rfl (by simp only [Nat.zero_add] <;> rfl)) rfl rfl rfl ?_
                  refine WL_is (X_load1 rfl rfl (by exact idx3) rfl rfl) rfl rfl rfl ?_
                  refine WL_is (X_eql_f rfl rfl rfl (by omega)) rfl rfl rfl ?_
                  refine WL_is (X_move rfl rfl) rfl rfl rfl ?_
                  refine WL_is (X_move rfl rfl) rfl rfl rfl ?_
                  refine WL_is (X_eql_f rfl rfl rfl (by omega)) rfl rfl rfl ?_
                  refine WL_is (X_move rfl rfl) rfl rfl rfl ?_
                  refine WL_is (X_move rfl rfl) rfl rfl rfl ?_
                  refine WL_is (X_fieldAddr rfl rfl rfl (by simp only [Nat.zero_add] <;> rfl)) rfl rfl rfl ?_
                  refine WL_is (X_load1 rfl rfl (by exact idx2) rfl rfl) rfl rfl rfl ?_
                  refine WL_is (X_convW rfl rfl rfl rfl (by exact wrap_i64_in (by omega) (by omega))) rfl rfl rfl ?_
                  refine WL_is (X_eql_t rfl rfl rfl (by omega)) rfl rfl rfl ?_
                  refine WL_is (X_pick_f rfl rfl rfl) rfl rfl rfl ?_
                  refine WL_is (X_move rfl rfl) rfl rfl rfl ?_
                  refine WL_is (X_move rfl rfl) rfl rfl rfl ?_
                  refine WL_is (X_eql_f rfl rfl rfl (by omega)) rfl rfl rfl ?_
                  refine WL_is (X_move rfl rfl) rfl rfl rfl ?_
                  refine WL_is (X_move rfl rfl) rfl rfl rfl ?_
                  refine WL_is (X_fieldAddr rfl rfl rfl (by simp only [Nat.zero_add] <;> rfl)) rfl rfl rfl ?_
                  refine WL_is (X_load1 rfl rfl (by exact idx2) rfl rfl) rfl rfl rfl ?_
                  refine WL_is (X_convW rfl rfl rfl rfl (by exact wrap_i64_in (by omega) (by omega))) rfl rfl rfl ?_
                  refine WL_is (X_eql_f rfl rfl rfl (by omega)) rfl rfl rfl ?_
                  refine WL_is (X_pick_f rfl rfl rfl) rfl rfl rfl ?_
                  refine WL_is (X_move rfl rfl) rfl rfl rfl ?_
                  refine WL_is (X_loadA rfl rfl (by exact idx3) rfl rfl rfl) rfl rfl rfl ?_
                  refine WL_is (X_move rfl rfl) rfl rfl rfl ?_
                  refine WL_is (X_convW rfl rfl rfl rfl (by exact wrap_u16_in (by omega) (by omega))) rfl rfl rfl ?_
                  refine WL_is (X_callv rfl rfl rfl Try.func54 rfl (by assumption)) rfl rfl rfl ?_
                  refine WL_is (X_pick_f rfl rfl rfl) rfl rfl rfl ?_
                  refine WL_is (X_pick_t rfl rfl rfl) rfl rfl rfl ?_
                  refine WL_is (X_pick_f rfl rfl rfl) rfl rfl rfl ?_
                  refine WL_callP rfl rfl rfl Try.func37 rfl rfl rfl rfl (unless_fn h false 601) (fun _ _ _ _ hA => by cases hA.1) (fun ch R' h' hl hA => ?_) (fun _ _ hA => hA)
                  obtain ⟨_, rfl, rfl⟩ := hA
                  simp only [List.nil_append]
                  (repeat (first | refine Then_panic ?_))
                  refine fin_pan dp_Chown Try.func53 rfl (List.Perm.swap _ _ _) ?_
                  intro h' hl
                  refine RetOk_vals (.cons (.cellA rfl idx0 rfl rfl rfl) (.cons (.cell1 rfl idx1 rfl rfl) .nil)) rfl (UpdE.sub (SubR.none _) ?_)
                  rw [a3 hrng hown (by unfold passO; rw [g3]; simp [j0, g1, g2])]
                  exact AnsO.bad h' 601
          · skip
            refine W_region rfl ?_
            refine WL_is (X_fieldAddr rfl rfl rfl (by simp only [Nat.zero_add] <;> rfl)) rfl rfl rfl ?_
            refine WL_is (X_load1 rfl rfl (by exact idx3) rfl rfl) rfl rfl rfl ?_
            refine WL_is (X_eql_f rfl rfl rfl (by omega)) rfl rfl rfl ?_
            refine WL_is (X_move rfl rfl) rfl rfl rfl ?_
            refine WL_is (X_move rfl rfl) rfl rfl rfl ?_
            refine WL_is (X_eql_f rfl rfl rfl (by omega)) rfl rfl rfl ?_
            refine WL_is (X_move rfl rfl) rfl rfl rfl ?_
            refine WL_is (X_move rfl rfl) rfl rfl rfl ?_
            refine WL_is (X_fieldAddr rfl rfl rfl (by simp only [Nat.zero_add] <;> rfl)) rfl rfl rfl ?_
            refine WL_is (X_load1 rfl rfl (by exact idx2) rfl rfl) rfl rfl rfl ?_
            refine WL_is (X_convW rfl rfl rfl rfl (by exact wrap_i64_in (by omega) (by omega))) rfl rfl rfl ?_
            refine WL_is (X_eql_f rfl rfl rfl (by omega)) rfl rfl rfl ?_
            refine WL_is (X_pick_f rfl rfl rfl) rfl rfl rfl ?_
            refine WL_is (X_move rfl rfl) rfl rfl rfl ?_
            refine WL_off rfl rfl rfl ?_
            refine WL_off rfl rfl rfl ?_
            refine WL_off rfl rfl rfl ?_
            refine WL_off rfl rfl rfl ?_
            refine WL_off rfl rfl rfl ?_
            refine WL_off rfl rfl rfl ?_
            refine WL_off rfl rfl rfl ?_
            refine WL_off rfl rfl rfl ?_
            refine WL_off rfl rfl rfl ?_
            refine WL_off rfl rfl rfl ?_
            refine WL_off rfl rfl rfl ?_
            refine WL_off rfl rfl rfl ?_
            refine WL_off rfl rfl rfl ?_
            refine WL_off rfl rfl rfl ?_
            refine WL_off rfl rfl rfl ?_
            refine WL_is (X_pick_f rfl rfl rfl) rfl rfl rfl ?_
            refine WL_is (X_pick_f rfl rfl rfl) rfl rfl rfl ?_
            refine WL_callP rfl rfl rfl Try.func37 rfl rfl rfl rfl (unless_fn h false 601) (fun _ _ _ _ hA => by cases hA.1) (fun ch R' h' hl hA => ?_) (fun _ _ hA => hA)
            obtain ⟨_, rfl, rfl⟩ := hA
            simp only [List.nil_append]
            (repeat (first | refine Then_panic ?_))
            refine fin_pan dp_Chown Try.func53 rfl (List.Perm.swap _ _ _) ?_
            intro h' hl
            refine RetOk_vals (.cons (.cellA rfl idx0 rfl rfl rfl) (.cons (.cell1 rfl idx1 rfl rfl) .nil)) rfl (UpdE.sub (SubR.none _) ?_)
            rw [a3 hrng hown (by unfold passO; simp [j0, j1, j2])]
            exact AnsO.bad h' 601
    rintro _ hpass
    rw [a4 hrng hown hpass]
    (repeat (first | refine W_seq ?_))
    refine W_region rfl ?_
    refine WL_is (X_loadA rfl rfl (by exact idx2) rfl rfl rfl) rfl rfl rfl ?_
    refine WL_call rfl rfl rfl Try.func41 rfl rfl rfl rfl (attrCopyK_fn h a _ hv' hs) ?_
    rintro _ _ H1 L1 ⟨hA, rfl⟩
    obtain ⟨U, G, U2, G2, XV, rfl, s1, s2, s3, s4, s5⟩ := hA
    obtain ⟨o1, w1, rfl⟩ := s1.shape
    obtain ⟨o2, w2, rfl⟩ := s2.shape
    obtain ⟨o3, w3, rfl⟩ := s3.shape
    obtain ⟨o4, w4, rfl⟩ := s4.shape
    obtain ⟨o5, w5, rfl⟩ := s5.shape
    simp only [List.nil_append]
    unfold attrV
    have gok := Attr.given_ok (u := uid) (g := gid) hok k2 k4
    have gv : AttrV H1 (attrV (a.given uid gid) (.slice o1 a.acc.us.length w1) (.slice o2 a.acc.gs.length w2) (.slice o3 a.df.us.length w3) (.slice o4 a.df.gs.length w4) (.slice o5 a.xs.length w5)) (a.given uid gid) := ⟨_, _, _, _, _, rfl, s1, s2, s3, s4, s5⟩
    have gg := goes_fn H1 (a.given uid gid) xb _ _ _ _ _ gok gv
    unfold Attr.given at gg gv ⊢
    refine WL_store rfl rfl rfl (by exact idx1) rfl rfl rfl rfl rfl rfl rfl rfl rfl ?_
    (repeat (first | refine WL_nil ?_ | refine Then_normal ?_ | refine W_seq ?_))
    by_cases d1 : 0 ≤ uid
    · simp only [if_pos d1] at gg gv ⊢
      skip
      refine W_region rfl ?_
      refine WL_is (X_move rfl rfl) rfl rfl rfl ?_
      refine WL_is (X_geq_t rfl rfl rfl (by omega)) rfl rfl rfl ?_
      (repeat (first | refine WL_nil ?_ | refine Then_normal ?_ | refine W_true rfl ?_))
      skip
      refine W_region rfl ?_
      refine WL_is (X_move rfl rfl) rfl rfl rfl ?_
      refine WL_is (X_convW rfl rfl rfl rfl (by exact wrap_u16_in (by omega) (by omega))) rfl rfl rfl ?_
      refine WL_is (X_fieldAddr rfl rfl rfl (by simp only [Nat.zero_add] <;> rfl)) rfl rfl rfl ?_
      refine WL_store rfl rfl rfl (by exact idx1) rfl rfl rfl rfl rfl rfl rfl rfl rfl ?_
      (repeat (first | refine WL_nil ?_ | refine Then_normal ?_ | refine W_seq ?_))
      by_cases d2 : 0 ≤ gid
      · simp only [if_pos d2] at gg gv ⊢
        skip
        refine W_region rfl ?_
        refine WL_is (X_move rfl rfl) rfl rfl rfl ?_
        refine WL_is (X_geq_t rfl rfl rfl (by omega)) rfl rfl rfl ?_
        (repeat (first | refine WL_nil ?_ | refine Then_normal ?_ | refine W_true rfl ?_))
        skip
        refine W_region rfl ?_
        refine WL_is (X_move rfl rfl) rfl rfl rfl ?_
        refine WL_is (X_convW rfl rfl rfl rfl (by exact wrap_u16_in (by omega) (by omega))) rfl rfl rfl ?_
        refine WL_is (X_fieldAddr rfl rfl rfl (by simp only [Nat.zero_add] <;> rfl)) rfl rfl rfl ?_
        refine WL_store rfl rfl rfl (by exact idx1) rfl rfl rfl rfl rfl rfl rfl rfl rfl ?_
        (repeat (first | refine WL_nil ?_ | refine Then_normal ?_ | refine W_seq ?_))
        by_cases d3 : kind = 1
        · rw [if_pos d3]
          skip
          refine W_region rfl ?_
          refine WL_is (X_move rfl rfl) rfl rfl rfl ?_
          refine WL_is (X_eql_t rfl rfl rfl (by omega)) rfl rfl rfl ?_
          (repeat (first | refine WL_nil ?_ | refine Then_normal ?_ | refine W_true rfl ?_))
          skip
          refine W_region rfl ?_
          refine WL_callR [_] _ rfl rfl rfl Try.func55 rfl rfl rfl rfl (perm_front 1 rfl) gg ?_
          rintro _ _ H3 L3 rfl
          simp only [List.cons_append, List.nil_append, List.eraseIdx_cons_zero]
          (repeat (first | refine WL_nil ?_ | refine Then_normal ?_ | refine W_seq ?_))
          skip
          refine W_region rfl ?_
          refine WL_is (X_loadA rfl rfl (by exact idx0) rfl rfl rfl) rfl rfl rfl ?_
          refine WL_store rfl rfl rfl (by exact idx0) rfl rfl rfl rfl rfl rfl rfl rfl rfl ?_
          refine WL_store rfl rfl rfl (by exact idx1) rfl rfl rfl rfl rfl rfl rfl rfl rfl ?_
          (repeat (first | refine WL_nil ?_ | refine Then_normal ?_ | refine W_ret ?_))
          refine fin_ret dn_Chown Try.func53 rfl ?_
          intro h' hl
          refine RetOk_vals (.cons (.cellA rfl (by exact idx0) rfl rfl rfl) (.cons (.cell1 rfl (by exact idx1) rfl rfl) .nil)) rfl (UpdE.sub (SubR.none _) ?_)
          have LL := L3.trans hl
          exact ⟨⟨_, rfl, _, _, _, _, _, rfl, s1.mono LL, s2.mono LL, s3.mono LL, s4.mono LL, s5.mono LL⟩, rfl⟩
        · rw [if_neg d3]
          skip
          refine W_region rfl ?_
          refine WL_is (X_move rfl rfl) rfl rfl rfl ?_
          refine WL_is (X_eql_f rfl rfl rfl (by omega)) rfl rfl rfl ?_
          (repeat (first | refine WL_nil ?_ | refine Then_normal ?_ | refine W_seq ?_ | refine W_skip ?_ | refine W_false rfl ?_))
          skip
          refine W_region rfl ?_
          refine WL_is (X_loadA rfl rfl (by exact idx1) rfl rfl rfl) rfl rfl rfl ?_
          refine WL_store rfl rfl rfl (by exact idx1) rfl rfl rfl rfl rfl rfl rfl rfl rfl ?_
          refine WL_store rfl rfl rfl (by exact idx0) rfl rfl rfl rfl rfl rfl rfl rfl rfl ?_
          (repeat (first | refine WL_nil ?_ | refine Then_normal ?_ | refine W_ret ?_))
          refine fin_ret dn_Chown Try.func53 rfl ?_
          intro h' LL
          refine RetOk_vals (.cons (.cellA rfl (by exact idx1) rfl rfl rfl) (.cons (.cell1 rfl (by exact idx0) rfl rfl) .nil)) rfl (UpdE.sub (SubR.none _) ?_)
          exact ⟨⟨_, rfl, _, _, _, _, _, rfl, s1.mono LL, s2.mono LL, s3.mono LL, s4.mono LL, s5.mono LL⟩, rfl⟩
      · simp only [if_neg d2] at gg gv ⊢
        skip
        refine W_region rfl ?_
        refine WL_is (X_move rfl rfl) rfl rfl rfl ?_
        refine WL_is (X_geq_f rfl rfl rfl (by omega)) rfl rfl rfl ?_
        (repeat (first | refine WL_nil ?_ | refine Then_normal ?_ | refine W_seq ?_ | refine W_skip ?_ | refine W_false rfl ?_))
        by_cases d3 : kind = 1
        · rw [if_pos d3]
          skip
          refine W_region rfl ?_
          refine WL_is (X_move rfl rfl) rfl rfl rfl ?_
          refine WL_is (X_eql_t rfl rfl rfl (by omega)) rfl rfl rfl ?_
          (repeat (first | refine WL_nil ?_ | refine Then_normal ?_ | refine W_true rfl ?_))
          skip
          refine W_region rfl ?_
          refine WL_callR [_] _ rfl rfl rfl Try.func55 rfl rfl rfl rfl (perm_front 1 rfl) gg ?_
          rintro _ _ H3 L3 rfl
          simp only [List.cons_append, List.nil_append, List.eraseIdx_cons_zero]
          (repeat (first | refine WL_nil ?_ | refine Then_normal ?_ | refine W_seq ?_))
          skip
          refine W_region rfl ?_
          refine WL_is (X_loadA rfl rfl (by exact idx0) rfl rfl rfl) rfl rfl rfl ?_
          refine WL_store rfl rfl rfl (by exact idx0) rfl rfl rfl rfl rfl rfl rfl rfl rfl ?_
          refine WL_store rfl rfl rfl (by exact idx1) rfl rfl rfl rfl rfl rfl rfl rfl rfl ?_
          (repeat (first | refine WL_nil ?_ | refine Then_normal ?_ | refine W_ret ?_))
          refine fin_ret dn_Chown Try.func53 rfl ?_
          intro h' hl
          refine RetOk_vals (.cons (.cellA rfl (by exact idx0) rfl rfl rfl) (.cons (.cell1 rfl (by exact idx1) rfl rfl) .nil)) rfl (UpdE.sub (SubR.none _) ?_)
          have LL := L3.trans hl
          exact ⟨⟨_, rfl, _, _, _, _, _, rfl, s1.mono LL, s2.mono LL, s3.mono LL, s4.mono LL, s5.mono LL⟩, rfl⟩
        · rw [if_neg d3]
          skip
          refine W_region rfl ?_
          refine WL_is (X_move rfl rfl) rfl rfl rfl ?_
          refine WL_is (X_eql_f rfl rfl rfl (by omega)) rfl rfl rfl ?_
          (repeat (first | refine WL_nil ?_ | refine Then_normal ?_ | refine W_seq ?_ | refine W_skip ?_ | refine W_false rfl ?_))
          skip
          refine W_region rfl ?_
          refine WL_is (X_loadA rfl rfl (by exact idx1) rfl rfl rfl) rfl rfl rfl ?_
          refine WL_store rfl rfl rfl (by exact idx1) rfl rfl rfl rfl rfl rfl rfl rfl rfl ?_
          refine WL_store rfl rfl rfl (by exact idx0) rfl rfl rfl rfl rfl rfl rfl rfl rfl ?_
          (repeat (first | refine WL_nil ?_ | refine Then_normal ?_ | refine W_ret ?_))
          refine fin_ret dn_Chown Try.func53 rfl ?_
          intro h' LL
          refine RetOk_vals (.cons (.cellA rfl (by exact idx1) rfl rfl rfl) (.cons (.cell1 rfl (by exact idx0) rfl rfl) .nil)) rfl (UpdE.sub (SubR.none _) ?_)
          exact ⟨⟨_, rfl, _, _, _, _, _, rfl, s1.mono LL, s2.mono LL, s3.mono LL, s4.mono LL, s5.mono LL⟩, rfl⟩
    · simp only [if_neg d1] at gg gv ⊢
      skip
      refine W_region rfl ?_
      refine WL_is (X_move rfl rfl) rfl rfl rfl ?_
      refine WL_is (X_geq_f rfl rfl rfl (by omega)) rfl rfl rfl ?_
      (repeat (first | refine WL_nil ?_ | refine Then_normal ?_ | refine W_seq ?_ | refine W_skip ?_ | refine W_false rfl ?_))
      by_cases d2 : 0 ≤ gid
      · simp only [if_pos d2] at gg gv ⊢
        skip
        refine W_region rfl ?_
        refine WL_is (X_move rfl rfl) rfl rfl rfl ?_
        refine WL_is (X_geq_t rfl rfl rfl (by omega)) rfl rfl rfl ?_
        (repeat (first | refine WL_nil ?_ | refine Then_normal ?_ | refine W_true rfl ?_))
        skip
        refine W_region rfl ?_
        refine WL_is (X_move rfl rfl) rfl rfl rfl ?_
        refine WL_is (X_convW rfl rfl rfl rfl (by exact wrap_u16_in (by omega) (by omega))) rfl rfl rfl ?_
        refine WL_is (X_fieldAddr rfl rfl rfl (by simp only [Nat.zero_add] <;> rfl)) rfl rfl rfl ?_
        refine WL_store rfl rfl rfl (by exact idx1) rfl rfl rfl rfl rfl rfl rfl rfl rfl ?_
        (repeat (first | refine WL_nil ?_ | refine Then_normal ?_ | refine W_seq ?_))
        by_cases d3 : kind = 1
        · rw [if_pos d3]
          skip
          refine W_region rfl ?_
          refine WL_is (X_move rfl rfl) rfl rfl rfl ?_
          refine WL_is (X_eql_t rfl rfl rfl (by omega)) rfl rfl rfl ?_
          (repeat (first | refine WL_nil ?_ | refine Then_normal ?_ | refine W_true rfl ?_))
          skip
          refine W_region rfl ?_
          refine WL_callR [_] _ rfl rfl rfl Try.func55 rfl rfl rfl rfl (perm_front 1 rfl) gg ?_
          rintro _ _ H3 L3 rfl
          simp only [List.cons_append, List.nil_append, List.eraseIdx_cons_zero]
          (repeat (first | refine WL_nil ?_ | refine Then_normal ?_ | refine W_seq ?_))
          skip
          refine W_region rfl ?_
          refine WL_is (X_loadA rfl rfl (by exact idx0) rfl rfl rfl) rfl rfl rfl ?_
          refine WL_store rfl rfl rfl (by exact idx0) rfl rfl rfl rfl rfl rfl rfl rfl rfl ?_
          refine WL_store rfl rfl rfl (by exact idx1) rfl rfl rfl rfl rfl rfl rfl rfl rfl ?_
          (repeat (first | refine WL_nil ?_ | refine Then_normal ?_ | refine W_ret ?_))
          refine fin_ret dn_Chown Try.func53 rfl ?_
          intro h' hl
          refine RetOk_vals (.cons (.cellA rfl (by exact idx0) rfl rfl rfl) (.cons (.cell1 rfl (by exact idx1) rfl rfl) .nil)) rfl (UpdE.sub (SubR.none _) ?_)
          have LL := L3.trans hl
          exact ⟨⟨_, rfl, _, _, _, _, _, rfl, s1.mono LL, s2.mono LL, s3.mono LL, s4.mono LL, s5.mono LL⟩, rfl⟩
        · rw [if_neg d3]
          skip
          refine W_region rfl ?_
          refine WL_is (X_move rfl rfl) rfl rfl rfl ?_
          refine WL_is (X_eql_f rfl rfl rfl (by omega)) rfl rfl rfl ?_
          (repeat (first | refine WL_nil ?_ | refine Then_normal ?_ | refine W_seq ?_ | refine W_skip ?_ | refine W_false rfl ?_))
          skip
          refine W_region rfl ?_
          refine WL_is (X_loadA rfl rfl (by exact idx1) rfl rfl rfl) rfl rfl rfl ?_
          refine WL_store rfl rfl rfl (by exact idx1) rfl rfl rfl rfl rfl rfl rfl rfl rfl ?_
          refine WL_store rfl rfl rfl (by exact idx0) rfl rfl rfl rfl rfl rfl rfl rfl rfl ?_
          (repeat (first | refine WL_nil ?_ | refine Then_normal ?_ | refine W_ret ?_))
          refine fin_ret dn_Chown Try.func53 rfl ?_
          intro h' LL
          refine RetOk_vals (.cons (.cellA rfl (by exact idx1) rfl rfl rfl) (.cons (.cell1 rfl (by exact idx0) rfl rfl) .nil)) rfl (UpdE.sub (SubR.none _) ?_)
          exact ⟨⟨_, rfl, _, _, _, _, _, rfl, s1.mono LL, s2.mono LL, s3.mono LL, s4.mono LL, s5.mono LL⟩, rfl⟩
      · simp only [if_neg d2] at gg gv ⊢
        skip
        refine W_region rfl ?_
        refine WL_is (X_move rfl rfl) rfl rfl rfl ?_
        refine WL_is (X_geq_f rfl rfl rfl (by omega)) rfl rfl rfl ?_
        (repeat (first | refine WL_nil ?_ | refine Then_normal ?_ | refine W_seq ?_ | refine W_skip ?_ | refine W_false rfl ?_))
        by_cases d3 : kind = 1
        · rw [if_pos d3]
          skip
          refine W_region rfl ?_
          refine WL_is (X_move rfl rfl) rfl rfl rfl ?_
          refine WL_is (X_eql_t rfl rfl rfl (by omega)) rfl rfl rfl ?_
          (repeat (first | refine WL_nil ?_ | refine Then_normal ?_ | refine W_true rfl ?_))
          skip
          refine W_region rfl ?_
          refine WL_callR [_] _ rfl rfl rfl Try.func55 rfl rfl rfl rfl (perm_front 1 rfl) gg ?_
          rintro _ _ H3 L3 rfl
          simp only [List.cons_append, List.nil_append, List.eraseIdx_cons_zero]
          (repeat (first | refine WL_nil ?_ | refine Then_normal ?_ | refine W_seq ?_))
          skip
          refine W_region rfl ?_
          refine WL_is (X_loadA rfl rfl (by exact idx0) rfl rfl rfl) rfl rfl rfl ?_
          refine WL_store rfl rfl rfl (by exact idx0) rfl rfl rfl rfl rfl rfl rfl rfl rfl ?_
          refine WL_store rfl rfl rfl (by exact idx1) rfl rfl rfl rfl rfl rfl rfl rfl rfl ?_
          (repeat (first | refine WL_nil ?_ | refine Then_normal ?_ | refine W_ret ?_))
          refine fin_ret dn_Chown Try.func53 rfl ?_
          intro h' hl
          refine RetOk_vals (.cons (.cellA rfl (by exact idx0) rfl rfl rfl) (.cons (.cell1 rfl (by exact idx1) rfl rfl) .nil)) rfl (UpdE.sub (SubR.none _) ?_)
          have LL := L3.trans hl
          exact ⟨⟨_, rfl, _, _, _, _, _, rfl, s1.mono LL, s2.mono LL, s3.mono LL, s4.mono LL, s5.mono LL⟩, rfl⟩
        · rw [if_neg d3]
          skip
          refine W_region rfl ?_
          refine WL_is (X_move rfl rfl) rfl rfl rfl ?_
          refine WL_is (X_eql_f rfl rfl rfl (by omega)) rfl rfl rfl ?_
          (repeat (first | refine WL_nil ?_ | refine Then_normal ?_ | refine W_seq ?_ | refine W_skip ?_ | refine W_false rfl ?_))
          skip
          refine W_region rfl ?_
          refine WL_is (X_loadA rfl rfl (by exact idx1) rfl rfl rfl) rfl rfl rfl ?_
          refine WL_store rfl rfl rfl (by exact idx1) rfl rfl rfl rfl rfl rfl rfl rfl rfl ?_
          refine WL_store rfl rfl rfl (by exact idx0) rfl rfl rfl rfl rfl rfl rfl rfl rfl ?_
          (repeat (first | refine WL_nil ?_ | refine Then_normal ?_ | refine W_ret ?_))
          refine fin_ret dn_Chown Try.func53 rfl ?_
          intro h' LL
          refine RetOk_vals (.cons (.cellA rfl (by exact idx1) rfl rfl rfl) (.cons (.cell1 rfl (by exact idx0) rfl rfl) .nil)) rfl (UpdE.sub (SubR.none _) ?_)
          exact ⟨⟨_, rfl, _, _, _, _, _, rfl, s1.mono LL, s2.mono LL, s3.mono LL, s4.mono LL, s5.mono LL⟩, rfl⟩
end Go.Proofs.Ytligadbnoiibnaa
