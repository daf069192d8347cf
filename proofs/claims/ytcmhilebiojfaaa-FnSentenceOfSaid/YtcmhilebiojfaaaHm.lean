/- The contracts of this session's own, second part: the texts HandRanks to HandText, joined. -/
import Derived.Test.YtcmhilebiojfaaaHm0
import Derived.Test.YtcmhilebiojfaaaBx
import Derived.Shelf.Abstract
import Derived.Test.YtcmhilebiojfaaaProg
import Derived.Test.YtcmhilebiojfaaaHandF
import Derived.RowKit
import Derived.OwnWalk
import Derived.WalkKit
import Derived.KernelRfl
/- RankFrom returns just the ranks and the answer that the words below tell, for all arguments. -/
namespace Go.Proofs.Ytcmhilebiojfaaa.Hand
open Go.RowKit Go.Proofs.Ytcmhilebiojfaaa.B Go.Proofs.YtcmhilebiojfaaaW.PrintWords Go.Proofs.YtcmhilebiojfaaaW.PrintLast Go.Proofs.YtcmhilebiojfaaaW.PrintMore
set_option linter.unusedVariables false
set_option linter.unusedSimpArgs false

/-- Is world v before world w, or alike, as the table tells. -/
def befB (l : List Int) (v w : Nat) : Bool := (ent l (2 ^ v ||| 2 ^ w)).testBit v
/-- Is v the first one of its lot. -/
def firstB (l : List Int) (v : Nat) : Nat → Bool
  | 0 => true
  | x + 1 => firstB l v x && !(befB l x v && befB l v x)
/-- How many lots are before w. -/
def lotsN (l : List Int) (w : Nat) : Nat → Nat
  | 0 => 0
  | v + 1 => lotsN l w v + (if (firstB l v v && (befB l v w && !befB l w v)) = true then 1 else 0)
def fromRanks (l : List Int) (n : Nat) : List Int := (List.range n).map fun w : Nat => (lotsN l w n : Int)

theorem lotsN_le (l : List Int) (w : Nat) : ∀ n, lotsN l w n ≤ n
  | 0 => Nat.le_refl _
  | n + 1 => by
    have := lotsN_le l w n
    unfold lotsN
    split <;> omega

theorem range_snocN (k : Nat) (f : Nat → Int) : (List.range (k + 1)).map f = (List.range k).map f ++ [f k] := by
  rw [List.range_succ, List.map_append]; rfl

theorem two_le {n v : Nat} (h : v < n) : 2 ^ v < 2 ^ n := Nat.pow_lt_pow_right (by decide) h

set_option maxHeartbeats 2000000 in
theorem bef_at (A1 : Option Addr) (c1 : Nat) (l1 : List Int) (n B1 : Nat) (w w0 : World) (hb0 : Below w0.heap.size w0 w) (hn : n ≤ 4) (hl : l1.length = 2 ^ n) (hp : ∀ x ∈ l1, 0 ≤ x ∧ x ≤ 255) (hr : Kd.C (Kd.int .i64) w0 A1 l1.length l1)
    (h1 : w.heap[B1]? = some (.cells #[.slice A1 l1.length c1] 22 (0, 0))) (W : World) (hb : Below w.heap.size w W) (v x : Nat) (hv : v < n) (hx : x < n) :
    Calls Try.prog 38 #[.int .i64 v, .int .i64 x, .pointer (some ⟨B1, 0, none⟩)] W fun e w' => e = .returned (.bool (befB l1 v x)) ∧ ∃ q, w' = W.drewN q := by
  have hvx : 2 ^ v ||| 2 ^ x < 2 ^ n := Nat.or_lt_two_pow (two_le hv) (two_le hx)
  have h16 : 2 ^ n ≤ 2 ^ 4 := Nat.pow_le_pow_right (by decide) hn
  have e1 : 2 ^ v < 2 ^ n := two_le hv
  have e2 : 2 ^ x < 2 ^ n := two_le hx
  have s1 : IntKind.i64.wrap ((2 : Int) ^ v) = ((2 ^ v : Nat) : Int) := by
    rw [show ((2 : Int) ^ v) = ((2 ^ v : Nat) : Int) by simp]
    generalize 2 ^ v = y at e1
    exact wraps_i64 _ (by omega) (by omega)
  have s2 : IntKind.i64.wrap ((2 : Int) ^ x) = ((2 ^ x : Nat) : Int) := by
    rw [show ((2 : Int) ^ x) = ((2 ^ x : Nat) : Int) by simp]
    generalize 2 ^ x = y at e2
    exact wraps_i64 _ (by omega) (by omega)
  have hor : Go.bits .or .i64 (IntKind.i64.wrap ((2 : Int) ^ v)) (IntKind.i64.wrap ((2 : Int) ^ x)) = ((2 ^ v ||| 2 ^ x : Nat) : Int) := by
    rw [s1, s2]
    exact or_i64 _ _ (by omega) (by omega)
  clear e1 e2
  obtain ⟨ad, e, hx0⟩ := Kd.at_int hr ((2 ^ v ||| 2 ^ x : Nat) : Int) (by omega) (by omega)
  subst e
  have hx1 := (hb0.cell (World.block_lt_of_cell? w0 _ hx0)).trans hx0
  have hcx := (hb.cell (World.block_lt_of_cell? w _ hx1)).trans hx1
  rw [Int.toNat_natCast] at hcx
  have hc1 : W.cell? ⟨B1, 0, none⟩ = some (.slice (some ad) l1.length c1) := (hb.cell (p := ⟨B1, 0, none⟩) (blk_lt h1)).trans (blk_cell h1 0)
  have hm := hp _ (mem_rd l1 (2 ^ v ||| 2 ^ x) (by omega))
  obtain ⟨q, hq⟩ := Int.eq_ofNat_of_zero_le hm.1
  have hE : ent l1 (2 ^ v ||| 2 ^ x) = q := by unfold ent; rw [hq]; simp
  have hand := and_one q v (by omega) (by omega)
  have HB : befB l1 v x = (Go.bits .and .i64 ((q : Int) / 2 ^ v) 1 == 1) := by
    unfold befB
    rw [show ((q : Int) / 2 ^ v) = shr .i64 (q : Int) (v : Int) by rw [shr_nat q v (by omega)]; simp]
    rw [hE, hand]
    cases q.testBit v <;> rfl
  rw [hq] at hcx
  rw [HB]
  have p1 := eq_true (show (0 : Int) ≤ ((2 ^ v ||| 2 ^ x : Nat) : Int) by omega)
  have p2 := eq_true (show ((2 ^ v ||| 2 ^ x : Nat) : Int) < (l1.length : Int) by omega)
  have p3 := eq_true (show (0 : Int) ≤ (v : Int) by omega)
  have p4 := eq_true (show (0 : Int) ≤ (x : Int) by omega)
  generalize 2 ^ v ||| 2 ^ x = m at *
  clear hr hx0 hx1 h1 hb hb0 s1 s2 HB hand hE hm hp hl
  go_enter Try.func38, Try.ntmps38
  go_wp2
  go_quiet (fail)
  go_wp2
  go_ret
  exact ⟨rfl, _, rfl⟩

/-- RankFrom: ranks and whether there are any. -/
def impl_RankFrom.f (t : Int) (l : List Int) : Option (List Int × Bool) :=
  some (if okTab t l = true ∧ fault l = 0 then (fromRanks l (nW t).toNat, true) else ([], false))

theorem okTab_cases {t : Int} {l : List Int} (h : okTab t l = true) : 1 ≤ t ∧ t ≤ 2 ∧ (l.length : Int) = allW t + 1 ∧ (∀ x ∈ l, 0 ≤ x ∧ x ≤ 255) ∧ l.length ≤ 256 ∧ (t = 1 ∧ l.length = 2 ^ 2 ∨ t = 2 ∧ l.length = 2 ^ 4) := by
  unfold okTab at h
  simp only [Bool.and_eq_true, decide_eq_true_eq, List.all_eq_true] at h
  obtain ⟨⟨h1, h2⟩, h3, h4⟩ := h
  have hc : t = 1 ∨ t = 2 := by omega
  refine ⟨h1, h2, h3, fun x hx => ?_, ?_, ?_⟩
  · have := okS_cases (h4 x hx)
    omega
  · rcases hc with rfl | rfl
    · have : allW 1 = 3 := by decide
      omega
    · have : allW 2 = 15 := by decide
      omega
  · rcases hc with rfl | rfl
    · have : allW 1 = 3 := by decide
      left; omega
    · have : allW 2 = 15 := by decide
      right; omega

theorem fault_range (l : List Int) : fault l = 0 ∨ ¬ fault l = 0 := Classical.em _

set_option maxHeartbeats 8000000 in
set_option maxRecDepth 100000 in
theorem rankFrom_at (n : Nat) (t : Int) (ht : t = 1 ∧ n = 2 ∨ t = 2 ∧ n = 4) (A1 : Option Addr) (c1 : Nat) (l1 : List Int) (w : World) (hr1 : Kd.C (Kd.int .i64) w A1 l1.length l1) (hc1 : l1.length ≤ c1)
    (hok : okTab t l1 = true) (hf : fault l1 = 0) (hl : l1.length = 2 ^ n) (hp : ∀ x ∈ l1, 0 ≤ x ∧ x ≤ 255) :
    Calls Try.prog 11 #[.int .i64 t, .slice A1 l1.length c1] w fun e w' => ∃ v0_ : Value, e = .returned (.tuple #[v0_, .bool true]) ∧ Kd.R (Kd.int .i64) 3 w' w.heap.size (fun _ => True) v0_ (fromRanks l1 n) ∧ Below w.heap.size w w' := by
  have hn4 : n ≤ 4 := by omega
  have h16 : 2 ^ n ≤ 2 ^ 4 := Nat.pow_le_pow_right (by decide) hn4
  have HT := Lib.hid (show impl_isTable.f t l1 = some true by unfold impl_isTable.f; rw [hok])
  have HF := Lib.hid (show impl_firstFault.f 70000 l1 = some 0 by rw [firstFault_eq l1 70000 (by omega) hp (by decide), hf])
  have HR := Lib.hid hr1
  have HL := Lib.hid hl
  have HP := Lib.hid hp
  have hsh : IntKind.i64.wrap ((2 : Int) ^ t.toNat) = (n : Int) := by rcases ht with ⟨rfl, rfl⟩ | ⟨rfl, rfl⟩ <;> decide +kernel
  have ht0 : (0 ≤ t) = True := eq_true (by omega)
  have HBW := Lib.hid (show Below w.heap.size w (w.alloc (.cells #[.slice A1 l1.length c1] 22)) from (Below.refl _ w).alloc (Nat.le_refl _) _)
  clear hr1 hok hf hl hp h16
  go_enter Try.func11, Try.ntmps11
  go_wp2_with fail
  refine (impl_isTable.calls t A1 c1 l1 true _ (Kd.C_below HR.out HBW.out) hc1 HT.out).mono ?_
  rintro e w1 ⟨rfl, hb1⟩
  have HB1 := Lib.hid (below_step HBW.out hb1)
  have HK1 := Lib.hid (blk_below (blk_new w (.cells #[.slice A1 l1.length c1] 22)) hb1)
  have hcT : w1.cell? ⟨w.heap.size, 0, none⟩ = some (.slice A1 l1.length c1) := blk_cell HK1.out 0
  clear hb1
  go_wp2_with fail
  refine (impl_firstFault.calls 70000 A1 c1 l1 0 _ (Kd.C_below HR.out HB1.out) hc1 HF.out).mono ?_
  rintro e wB ⟨rfl, hD⟩
  have hbB : Below w.heap.size w wB := by obtain ⟨nd, rfl⟩ := hD; exact pw_below_drewN HB1.out nd
  have hkB : wB.heap[w.heap.size]? = some (.cells #[.slice A1 l1.length c1] 22 (0, 0)) := by obtain ⟨nd, rfl⟩ := hD; exact HK1.out
  have HBW2 := Lib.hid hbB
  have HBEF := Lib.hid (fun (W : World) (hb : Below wB.heap.size wB W) (v x : Nat) (hv : v < n) (hx : x < n) => bef_at A1 c1 l1 n w.heap.size wB w hbB hn4 HL.out HP.out HR.out hkB W hb v x hv hx)
  clear hD hbB hkB hcT
  have HB := Aside0.mk (Below.refl wB.heap.size wB)
  obtain ⟨y288, hy288⟩ : ∃ y_ : List Int, y_ = (([] : List Int)) := ⟨_, rfl⟩
  have Ny288 := Aside0.mk hy288
  clear hy288
  go_wp2_with ((with_reducible refine gate_dst (N := 23) rfl ?_); refine Kd.R_lit (Kd.int .i64) _ 3 ?hg (N := 23) ?hd (xs := ([] : List Int)) (inner := []) (ok := fun _ => True) (okp := fun _ => True) ?hr ?hp (fun _ hk => hk) trivial (Below.refl _ _) (Nat.le_refl _) (by simp) ?_; (case hd => rfl); (case hg => rfl); (case hr => first | (go_simp; done) | (go_simp; rfl)); (case hp => exact (Reps.none _ _)); intro v289 w3 ho4 hb hg_ hnew_; clear hg_ hnew_; (first | rw [← Ny288.out] at ho4 | (simp only [Int.reduceToNat] at ho4; rw [← Ny288.out] at ho4)); have n0_ := Aside0.mk (Kd.R_lower ho4 (below_size (by repeat (first | (with_reducible first | exact HB.out | apply below_alloc | apply pw_below_drewN | apply below_drew1) | exact HB.out)))); have n1_ := Aside0.mk (below_step (by repeat (first | (with_reducible first | exact HB.out | apply below_alloc | apply pw_below_drewN | apply below_drew1) | exact HB.out)) hb); clear HB; have HO290 := n0_; have HB := n1_; clear n0_ n1_; clear hb ho4)
  go_loopg [7, 26] n (fun gg v7 v26 w' => ∃ kk : Nat, kk ≤ n ∧ n - kk ≤ gg ∧ v26 = .int .i64 kk ∧ Aside0 (Kd.R (Kd.int .i64) 3 w' wB.heap.size (fun _ => True) v7 ((List.range kk).map fun w : Nat => (lotsN l1 w n : Int))) ∧ Aside0 (Below wB.heap.size wB w'))
  case atStart => exact ⟨0, by omega, by omega, rfl, ⟨by rw [show ((List.range 0).map fun w : Nat => (lotsN l1 w n : Int)) = y288 from Ny288.out.symm]; (with_reducible repeat (first | apply Kd.R_alloc | apply Kd.R_drewN | apply Kd.R_drew)); exact HO290.out⟩, ⟨by repeat (first | (with_reducible first | exact HB.out | apply below_alloc | apply pw_below_drewN | apply below_drew1) | exact HB.out)⟩⟩
  case round =>
    obtain ⟨kk, hkk, hg, rfl, HO_5, HB⟩ := hrel
    by_cases hlt : kk < n
    · have hltz : (kk : Int) < (n : Int) := by omega
      have HLE := Lib.hid (lotsN_le l1 kk n)
      obtain ⟨y295, hy295⟩ : ∃ y_ : List Int, y_ = ((List.range kk).map fun w : Nat => (lotsN l1 w n : Int)) ++ [(lotsN l1 kk n : Int)] := ⟨_, rfl⟩
      obtain ⟨x5_1, hx5⟩ : ∃ y_ : List Int, y_ = (List.range kk).map fun w : Nat => (lotsN l1 w n : Int) := ⟨_, rfl⟩
      rw [← hx5] at hy295 HO_5
      have HLn : Aside0 (x5_1.length < 17592186044416) := ⟨by rw [hx5]; simp; omega⟩
      have Nx5 := Aside0.mk hx5
      have Ny295 := Aside0.mk hy295
      clear hx5 hy295
      go_wp2_with fail
      go_loopg [9, 31] n (fun gg v9 v31 w' => ∃ m q : Nat, m ≤ n ∧ n - m ≤ gg ∧ v31 = .int .i64 m ∧ v9 = .int .i64 (lotsN l1 kk m : Nat) ∧ w' = wr.drewN q)
      case atStart => exact ⟨0, 0, by omega, by omega, rfl, rfl, rfl⟩
      case round =>
        obtain ⟨m, qm, hm, hgm, rfl, rfl, rfl⟩ := hrel
        by_cases hltm : m < n
        · have hltmz : (m : Int) < (n : Int) := by omega
          go_wp2_with fail
          go_loopg [11, 35] m (fun gg v11 v35 w' => ∃ x q : Nat, x ≤ m ∧ m - x ≤ gg ∧ v35 = .int .i64 x ∧ v11 = .bool (firstB l1 m x) ∧ w' = wr.drewN q)
          case atStart => exact ⟨0, qm, by omega, by omega, rfl, rfl, rfl⟩
          case round =>
            obtain ⟨x, qx, hx, hgx, rfl, rfl, rfl⟩ := hrel
            by_cases hltx : x < m
            · have hltxz : (x : Int) < (m : Int) := by omega
              cases hfi : firstB l1 m x with
              | false =>
                have HFI := Lib.hid hfi
                clear hfi
                go_wp2_with fail
                go_roundg (m - (x + 1))
                case measure => omega
                case rel => exact ⟨x + 1, _, by omega, by omega, by go_num, by simp [firstB, HFI.out], rfl⟩
              | true =>
                have HFI := Lib.hid hfi
                clear hfi
                cases hba : befB l1 x m with
                | false =>
                  have hcall := fun q => HBEF.out (wr.drewN q) (pw_below_drewN HB.out q) x m (by omega) hltm
                  rw [hba] at hcall
                  have HBA := Lib.hid hba
                  have HCALL := Lib.hid hcall
                  clear hba hcall
                  go_wp2_with fail
                  refine (HCALL.out qx).mono ?_
                  rintro e w' ⟨rfl, q', rfl⟩
                  go_wp2_with fail
                  go_roundg (m - (x + 1))
                  case measure => omega
                  case rel => exact ⟨x + 1, _, by omega, by omega, by go_num, by simp [firstB, HFI.out, HBA.out], rfl⟩
                | true =>
                  have hcall := fun q => HBEF.out (wr.drewN q) (pw_below_drewN HB.out q) x m (by omega) hltm
                  rw [hba] at hcall
                  have HBA := Lib.hid hba
                  have HCALL := Lib.hid hcall
                  have HCALL2 := Lib.hid (fun q => HBEF.out (wr.drewN q) (pw_below_drewN HB.out q) m x hltm (by omega))
                  clear hba hcall
                  go_wp2_with fail
                  refine (HCALL.out qx).mono ?_
                  rintro e w' ⟨rfl, q', rfl⟩
                  go_wp2_with fail
                  refine (HCALL2.out (qx + q')).mono ?_
                  rintro e w' ⟨rfl, q'', rfl⟩
                  go_wp2_with fail
                  go_roundg (m - (x + 1))
                  case measure => omega
                  case rel => exact ⟨x + 1, _, by omega, by omega, by go_num, by simp [firstB, HFI.out, HBA.out], rfl⟩
            · have : m = x := by omega
              subst this
              cases hfi : firstB l1 m m with
              | false =>
                have HFI := Lib.hid hfi
                clear hfi
                go_wp2_with fail
                go_roundg (n - (m + 1))
                case measure => omega
                case rel => exact ⟨m + 1, _, by omega, by omega, by go_num, by simp [lotsN, HFI.out], rfl⟩
              | true =>
                have HFI := Lib.hid hfi
                clear hfi
                cases hba : befB l1 m kk with
                | false =>
                  have hcall := fun q => HBEF.out (wr.drewN q) (pw_below_drewN HB.out q) m kk hltm hlt
                  rw [hba] at hcall
                  have HBA := Lib.hid hba
                  have HCALL := Lib.hid hcall
                  clear hba hcall
                  go_wp2_with fail
                  refine (HCALL.out qx).mono ?_
                  rintro e w' ⟨rfl, q', rfl⟩
                  go_wp2_with fail
                  go_roundg (n - (m + 1))
                  case measure => omega
                  case rel => exact ⟨m + 1, _, by omega, by omega, by go_num, by simp [lotsN, HFI.out, HBA.out], rfl⟩
                | true =>
                  cases hbb : befB l1 kk m with
                  | true =>
                    have hcall := fun q => HBEF.out (wr.drewN q) (pw_below_drewN HB.out q) m kk hltm hlt
                    have hcall2 := fun q => HBEF.out (wr.drewN q) (pw_below_drewN HB.out q) kk m hlt hltm
                    rw [hba] at hcall
                    rw [hbb] at hcall2
                    have HBA := Lib.hid (And.intro hba hbb)
                    have HCALL := Lib.hid hcall
                    have HCALL2 := Lib.hid hcall2
                    clear hba hbb hcall hcall2
                    go_wp2_with fail
                    refine (HCALL.out qx).mono ?_
                    rintro e w' ⟨rfl, q', rfl⟩
                    go_wp2_with fail
                    refine (HCALL2.out (qx + q')).mono ?_
                    rintro e w' ⟨rfl, q'', rfl⟩
                    go_wp2_with fail
                    go_roundg (n - (m + 1))
                    case measure => omega
                    case rel => exact ⟨m + 1, _, by omega, by omega, by go_num, by simp [lotsN, HFI.out, HBA.out.1, HBA.out.2], rfl⟩
                  | false =>
                    have hcall := fun q => HBEF.out (wr.drewN q) (pw_below_drewN HB.out q) m kk hltm hlt
                    have hcall2 := fun q => HBEF.out (wr.drewN q) (pw_below_drewN HB.out q) kk m hlt hltm
                    rw [hba] at hcall
                    rw [hbb] at hcall2
                    have HBA := Lib.hid (And.intro hba hbb)
                    have HCALL := Lib.hid hcall
                    have HCALL2 := Lib.hid hcall2
                    have HLM := Lib.hid (lotsN_le l1 kk m)
                    clear hba hbb hcall hcall2
                    go_wp2_with fail
                    refine (HCALL.out qx).mono ?_
                    rintro e w' ⟨rfl, q', rfl⟩
                    go_wp2_with fail
                    refine (HCALL2.out (qx + q')).mono ?_
                    rintro e w' ⟨rfl, q'', rfl⟩
                    go_wp2_with fail
                    go_roundg (n - (m + 1))
                    case measure => omega
                    case rel => exact ⟨m + 1, _, by omega, by omega, by go_num, by (simp only [lotsN, HFI.out, HBA.out.1, HBA.out.2, Bool.not_false, Bool.and_true, if_true]; have := HLM.out; rw [next64 _ (by omega)]), rfl⟩
        · have : m = n := by omega
          subst this
          go_wp2_with ((with_reducible refine gate_builtin (b := .append) (xs := #[.tmp 70, .tmp 72]) rfl ?_); at_builtin; refine Kd.R_append (Kd.int .i64) (w0 := wB) wB.heap.size rfl (.tmp 70) (.tmp 72) 22 3 (.int .i64 0) 8 rfl Try.underlying22 infoI rfl (by decide) (by omega) u7 x5_1 ((lotsN l1 kk m : Nat) : Int) [.int .i64 ((lotsN l1 kk m : Nat) : Int)] (fun _ => True) (fun _ => False) rfl rfl ?aP (fun _ hk => hk.elim) ?aF ?aO ?aB ?aS ?aL ?_; (case aP => exact rfl); (case aB => exact (by repeat (first | (with_reducible first | exact HB.out | apply below_alloc | apply pw_below_drewN | apply below_drew1) | exact HB.out))); (case aF => exact (fun _ _ => trivial)); (case aO => exact (by (with_reducible repeat (first | apply Kd.R_alloc | apply Kd.R_drewN | apply Kd.R_drew)); exact HO_5.out)); (case aS => exact (below_size (by repeat (first | (with_reducible first | exact HB.out | apply below_alloc | apply pw_below_drewN | apply below_drew1) | exact HB.out)))); (case aL => have := HLn.out; omega); intro v296 w16 ho hb hg hat; rw [← Ny295.out] at ho; have n0_ := Aside0.mk (hb); have n1_ := Aside0.mk (ho); clear HB; clear HO_5; have HB := n0_; have HO297 := n1_; clear n0_ n1_; clear ho hb hg hat)
          go_roundg (m - (kk + 1))
          case measure => omega
          case rel => exact ⟨kk + 1, by omega, by omega, by go_num, ⟨by rw [range_snocN, ← Nx5.out, ← Ny295.out]; (with_reducible repeat (first | apply Kd.R_alloc | apply Kd.R_drewN | apply Kd.R_drew)); exact HO297.out⟩, ⟨by repeat (first | (with_reducible first | exact HB.out | apply below_alloc | apply pw_below_drewN | apply below_drew1) | exact HB.out)⟩⟩
    · have : kk = n := by omega
      subst this
      go_wp2
      go_ret2
      exact ⟨_, rfl, by (with_reducible repeat (first | apply Kd.R_alloc | apply Kd.R_drewN | apply Kd.R_drew)); exact Kd.R_lower HO_5.out HBW2.out.size, below_step HBW2.out (by repeat (first | (with_reducible first | exact HB.out | apply below_alloc | apply pw_below_drewN | apply below_drew1) | exact HB.out))⟩

set_option maxHeartbeats 2000000 in
theorem impl_RankFrom.calls (a0 : Int) (A1 : Option Addr) (c1 : Nat) (l1 : List Int) (r1 : List Int) (r2 : Bool) (w : World) (hr1 : Kd.C (Kd.int .i64) w A1 l1.length l1) (hc1 : l1.length ≤ c1) (h : impl_RankFrom.f a0 l1 = some (r1, r2)) :
    Calls Try.prog 11 #[.int .i64 a0, .slice A1 l1.length c1] w fun e w' => ∃ v0_ : Value, e = .returned (.tuple #[v0_, .bool r2]) ∧ Kd.R (Kd.int .i64) 3 w' w.heap.size (fun _ => True) v0_ r1 ∧ Below w.heap.size w w' := by
  have hr := Option.some.inj h
  clear h
  have HBW := Lib.hid (show Below w.heap.size w (w.alloc (.cells #[.slice A1 l1.length c1] 22)) from (Below.refl _ w).alloc (Nat.le_refl _) _)
  cases hok : okTab a0 l1 with
  | false =>
    rw [if_neg (by rw [hok]; simp)] at hr
    obtain ⟨rfl, rfl⟩ := Prod.mk.inj hr
    have HT := Lib.hid (show impl_isTable.f a0 l1 = some false by unfold impl_isTable.f; rw [hok])
    have HR := Lib.hid hr1
    clear hr hok hr1
    go_enter Try.func11, Try.ntmps11
    go_wp2_with fail
    refine (impl_isTable.calls a0 A1 c1 l1 false _ (Kd.C_below HR.out HBW.out) hc1 HT.out).mono ?_
    rintro e w1 ⟨rfl, hb1⟩
    have HB1 := Lib.hid (below_step HBW.out hb1)
    clear hb1
    go_wp2_with fail
    go_ret2
    exact ⟨_, rfl, Kd.R_nil _ _ _ _ _, HB1.out⟩
  | true =>
    obtain ⟨h1, h2, h3, hp, hl, hc⟩ := okTab_cases hok
    by_cases hf : fault l1 = 0
    · rw [if_pos ⟨hok, hf⟩] at hr
      obtain ⟨rfl, rfl⟩ := Prod.mk.inj hr
      rcases hc with ⟨rfl, hlen⟩ | ⟨rfl, hlen⟩
      · exact rankFrom_at 2 1 (.inl ⟨rfl, rfl⟩) A1 c1 l1 w hr1 hc1 hok hf hlen hp
      · exact rankFrom_at 4 2 (.inr ⟨rfl, rfl⟩) A1 c1 l1 w hr1 hc1 hok hf hlen hp
    · rw [if_neg (by simp [hf])] at hr
      obtain ⟨rfl, rfl⟩ := Prod.mk.inj hr
      have HT := Lib.hid (show impl_isTable.f a0 l1 = some true by unfold impl_isTable.f; rw [hok])
      have HF := Lib.hid (firstFault_eq l1 70000 hl hp (by decide))
      have hne : (fault l1 != 0) = true := bne_iff_ne.mpr hf
      have HR := Lib.hid hr1
      clear hr hok hr1 h1 h2 h3 hp hl hc hf
      go_enter Try.func11, Try.ntmps11
      go_wp2_with fail
      refine (impl_isTable.calls a0 A1 c1 l1 true _ (Kd.C_below HR.out HBW.out) hc1 HT.out).mono ?_
      rintro e w1 ⟨rfl, hb1⟩
      have HB1 := Lib.hid (below_step HBW.out hb1)
      have HK1 := Lib.hid (blk_below (blk_new w (.cells #[.slice A1 l1.length c1] 22)) hb1)
      have hcT : w1.cell? ⟨w.heap.size, 0, none⟩ = some (.slice A1 l1.length c1) := blk_cell HK1.out 0
      clear hb1
      go_wp2_with fail
      refine (impl_firstFault.calls 70000 A1 c1 l1 _ _ (Kd.C_below HR.out HB1.out) hc1 HF.out).mono ?_
      rintro e wB ⟨rfl, hD⟩
      have HBB := Lib.hid (show Below w.heap.size w wB by obtain ⟨nd, rfl⟩ := hD; exact pw_below_drewN HB1.out nd)
      clear hD
      go_wp2_with fail
      go_ret2
      exact ⟨_, rfl, Kd.R_nil _ _ _ _ _, HBB.out⟩

end Go.Proofs.Ytcmhilebiojfaaa.Hand

/- holdsIn, for 1 to 3 things and a text of at most 120 bytes, returns just what the words below tell: the set that a sentence tells, and whether the text is one. -/
namespace Go.Proofs.Ytcmhilebiojfaaa.Hand
open Go.RowKit Go.Proofs.Ytcmhilebiojfaaa.B Go.Proofs.YtcmhilebiojfaaaW.PrintWords Go.Proofs.YtcmhilebiojfaaaW.PrintLast Go.Proofs.YtcmhilebiojfaaaW.PrintMore
set_option linter.unusedVariables false
set_option linter.unusedSimpArgs false

/-- The byte at a place of a text, 0 at the end; and the place behind it. -/
def byteAt (s : ByteArray) (i : Nat) : Nat := if h : i < s.size then (s[i]'h).toNat else 0
def nextAt (s : ByteArray) (i : Nat) : Nat := if i < s.size then i + 1 else i
/-- The worlds in which a thing is so. -/
def thingSet (n i : Nat) : Nat := sumN n fun w => w.testBit i
/-- A sentence from a place on: where it holds, whether it is one, and the place behind it; d bounds the places ahead. -/
def sent (t : Nat) (s : ByteArray) : Nat → Nat → Nat × Bool × Nat
  | 0, i => (0, false, i)
  | d + 1, i =>
    let b := byteAt s i
    let i1 := nextAt s i
    if b = 48 then (0, true, i1)
    else if b = 49 then ((allW t).toNat, true, i1)
    else if b = 97 ∨ b = 98 ∨ b = 99 then (thingSet (nW t).toNat (b - 97), decide (b - 97 < t), i1)
    else if b = 33 then ((allW t).toNat ^^^ (sent t s d i1).1, (sent t s d i1).2.1, (sent t s d i1).2.2)
    else if b = 40 then
      (if (sent t s d i1).2.1 = false then (0, false, (sent t s d i1).2.2) else
        let i2 := (sent t s d i1).2.2
        let r2 := sent t s d (nextAt s i2)
        if r2.2.1 = false then (0, false, r2.2.2)
        else if byteAt s r2.2.2 = 41 then
          (if byteAt s i2 = 38 then ((sent t s d i1).1 &&& r2.1, true, nextAt s r2.2.2)
          else if byteAt s i2 = 124 then ((sent t s d i1).1 ||| r2.1, true, nextAt s r2.2.2)
          else if byteAt s i2 = 62 then (((allW t).toNat ^^^ (sent t s d i1).1) ||| r2.1, true, nextAt s r2.2.2)
          else (0, false, nextAt s r2.2.2))
        else (0, false, nextAt s r2.2.2))
    else (0, false, i1)

theorem nextAt_le (s : ByteArray) (i : Nat) (h : i ≤ s.size) : i ≤ nextAt s i ∧ nextAt s i ≤ s.size := by unfold nextAt; split <;> omega
theorem nextAt_lt (s : ByteArray) (i : Nat) (h : i ≤ s.size) (hb : byteAt s i ≠ 0) : nextAt s i = i + 1 ∧ i + 1 ≤ s.size := by
  unfold byteAt at hb; unfold nextAt
  by_cases h2 : i < s.size
  · rw [if_pos h2]; omega
  · rw [dif_neg h2] at hb; exact absurd rfl hb

theorem allW_nat_lt (t : Nat) : (allW (t : Int)).toNat < 256 := by unfold allW; split <;> (try split) <;> decide

/-- The reader, at a place. -/
def reader (t : Nat) (s : ByteArray) (i : Nat) : Obj := .cells #[.int .i64 (t : Int), .string s, .int .i64 (i : Int)] 71 (0, 0)

set_option maxHeartbeats 2000000 in
theorem next_at (t : Nat) (s : ByteArray) (i B : Nat) (hs : s.size ≤ 120) (hi : i ≤ s.size) (w : World) (h : w.heap[B]? = some (reader t s i)) :
    Calls Try.prog 79 #[.pointer (some ⟨B, 0, none⟩)] w fun e w' => e = .returned (.int .u8 (byteAt s i : Nat)) ∧ Below B w w' ∧ w'.heap[B]? = some (reader t s (nextAt s i)) := by
  have c0 : w.cell? ⟨B, 0, none⟩ = some (.int .i64 (t : Int)) := blk_cell h 0
  have c1 : w.cell? ⟨B, 1, none⟩ = some (.string s) := blk_cell h 1
  have c2 : w.cell? ⟨B, 2, none⟩ = some (.int .i64 (i : Int)) := blk_cell h 2
  have HK := Lib.hid h
  clear h
  by_cases hlt : i < s.size
  · have hne : ((i : Int) == (s.size : Int)) = false := by simp; omega
    unfold byteAt nextAt
    rw [dif_pos hlt, if_pos hlt]
    go_enter Try.func79, Try.ntmps79
    have fz := blk_frozen HK.out 2
    have e1 : wrap64 ((i : Int) + 1) = ((i + 1 : Nat) : Int) := by rw [w64 (by omega) (by omega)]; simp
    have p1 := eq_true (show (0 : Int) ≤ (i : Int) by omega)
    have p2 := eq_true (show (i : Int) < (s.size : Int) by omega)
    go_wp2_with fail
    go_quiet (fail)
    go_wp2_with fail
    have HB2 := Lib.hid (show Below B w ((w.drewN nq).setCell ⟨B, 2, none⟩ (.int .i64 ((i : Int) + 1))) from Below.setCell (B := B) (p := ⟨B, 2, none⟩) (pw_below_drewN (Below.refl _ w) nq) (Nat.le_refl _) _)
    have HK2 := Lib.hid (show ((w.drewN nq).setCell ⟨B, 2, none⟩ (.int .i64 ((i : Int) + 1))).heap[B]? = some (reader t s (i + 1)) from blk_put (blk_drewN HK.out nq) 2 _ rfl)
    generalize (w.drewN nq).setCell ⟨B, 2, none⟩ (.int .i64 ((i : Int) + 1)) = w2 at *
    clear c0 c1 c2 fz
    have c1 : w2.cell? ⟨B, 1, none⟩ = some (.string s) := blk_cell HK2.out 1
    have c2 : w2.cell? ⟨B, 2, none⟩ = some (.int .i64 ((i : Int) + 1)) := blk_cell HK2.out 2
    go_wp2_with fail
    go_quiet (fail)
    go_wp2_with fail
    go_ret
    exact ⟨rfl, pw_below_drewN HB2.out _, blk_drewN HK2.out _⟩
  · have : i = s.size := by omega
    subst this
    have hne : ((s.size : Int) == (s.size : Int)) = true := by simp
    unfold byteAt nextAt
    rw [dif_neg hlt, if_neg hlt]
    go_enter Try.func79, Try.ntmps79
    go_wp2_with fail
    go_quiet (fail)
    go_wp2_with fail
    go_ret
    exact ⟨rfl, pw_below_drewN (Below.refl _ w) nq, blk_drewN HK.out nq⟩

theorem byteAt_lt (s : ByteArray) (i : Nat) : byteAt s i < 256 := by
  unfold byteAt
  split
  · exact UInt8.toNat_lt _
  · decide

theorem sent_range (t : Nat) (s : ByteArray) (hn : (nW (t : Int)).toNat ≤ 8) : ∀ (d i : Nat), i ≤ s.size → i ≤ (sent t s d i).2.2 ∧ (sent t s d i).2.2 ≤ s.size ∧ (sent t s d i).1 < 256 := by
  intro d
  induction d with
  | zero => intro i hi; simp only [sent]; omega
  | succ d ih =>
    intro i hi
    have h1 := nextAt_le s i hi
    have ha := allW_nat_lt t
    have k1 := ih _ h1.2
    have h2 := nextAt_le s _ k1.2.1
    have k2 := ih _ h2.2
    have h3 := nextAt_le s _ k2.2.1
    have hx : (allW (t : Int)).toNat ^^^ (sent t s d (nextAt s i)).1 < 2 ^ 8 := Nat.xor_lt_two_pow ha k1.2.2
    have hand : (sent t s d (nextAt s i)).1 &&& (sent t s d (nextAt s (sent t s d (nextAt s i)).2.2)).1 < 256 := Nat.lt_of_le_of_lt Nat.and_le_left k1.2.2
    have hor : (sent t s d (nextAt s i)).1 ||| (sent t s d (nextAt s (sent t s d (nextAt s i)).2.2)).1 < 2 ^ 8 := Nat.or_lt_two_pow k1.2.2 k2.2.2
    have hor2 : ((allW (t : Int)).toNat ^^^ (sent t s d (nextAt s i)).1) ||| (sent t s d (nextAt s (sent t s d (nextAt s i)).2.2)).1 < 2 ^ 8 := Nat.or_lt_two_pow hx k2.2.2
    have hts : ∀ j, thingSet (nW (t : Int)).toNat j < 256 := fun j => Nat.lt_of_lt_of_le (sumN_lt _ _) (Nat.pow_le_pow_right (n := 2) (by decide) hn)
    have := hts (byteAt s i - 97)
    simp only [sent]
    by_cases b1 : byteAt s i = 48
    · rw [if_pos b1]; refine ⟨?_, ?_, ?_⟩ <;> (try simp only []) <;> omega
    rw [if_neg b1]
    by_cases b1 : byteAt s i = 49
    · rw [if_pos b1]; refine ⟨?_, ?_, ?_⟩ <;> (try simp only []) <;> omega
    rw [if_neg b1]
    by_cases b1 : byteAt s i = 97 ∨ byteAt s i = 98 ∨ byteAt s i = 99
    · rw [if_pos b1]; refine ⟨?_, ?_, ?_⟩ <;> (try simp only []) <;> omega
    rw [if_neg b1]
    by_cases b1 : byteAt s i = 33
    · rw [if_pos b1]; refine ⟨?_, ?_, ?_⟩ <;> (try simp only []) <;> omega
    rw [if_neg b1]
    by_cases b1 : byteAt s i = 40
    · rw [if_pos b1]
      by_cases b2 : (sent t s d (nextAt s i)).2.1 = false
      · rw [if_pos b2]; refine ⟨?_, ?_, ?_⟩ <;> (try simp only []) <;> omega
      rw [if_neg b2]
      by_cases b2 : (sent t s d (nextAt s (sent t s d (nextAt s i)).2.2)).2.1 = false
      · rw [if_pos b2]; refine ⟨?_, ?_, ?_⟩ <;> (try simp only []) <;> omega
      rw [if_neg b2]
      by_cases b2 : byteAt s (sent t s d (nextAt s (sent t s d (nextAt s i)).2.2)).2.2 = 41
      · rw [if_pos b2]
        by_cases b2 : byteAt s (sent t s d (nextAt s i)).2.2 = 38
        · rw [if_pos b2]; refine ⟨?_, ?_, ?_⟩ <;> (try simp only []) <;> omega
        rw [if_neg b2]
        by_cases b2 : byteAt s (sent t s d (nextAt s i)).2.2 = 124
        · rw [if_pos b2]; refine ⟨?_, ?_, ?_⟩ <;> (try simp only []) <;> omega
        rw [if_neg b2]
        by_cases b2 : byteAt s (sent t s d (nextAt s i)).2.2 = 62
        · rw [if_pos b2]; refine ⟨?_, ?_, ?_⟩ <;> (try simp only []) <;> omega
        rw [if_neg b2]; refine ⟨?_, ?_, ?_⟩ <;> (try simp only []) <;> omega
      · rw [if_neg b2]; refine ⟨?_, ?_, ?_⟩ <;> (try simp only []) <;> omega
    · rw [if_neg b1]; refine ⟨?_, ?_, ?_⟩ <;> (try simp only []) <;> omega

theorem thingTells (i B1 n : Nat) (hi : i ≤ 2) (hn : n ≤ 8) (w : World) (h1 : w.heap[B1]? = some (.cells #[.int .i64 (i : Int)] 3 (0, 0))) :
    Tells 80 #[.pointer (some ⟨B1, 0, none⟩)] n (fun x => x.testBit i) w := by
  intro W x hx hb
  have hc1 : W.cell? ⟨B1, 0, none⟩ = some (.int .i64 (i : Int)) := (hb.cell (p := ⟨B1, 0, none⟩) (blk_lt h1)).trans (blk_cell h1 0)
  have hand := and_one x i (by omega) (by omega)
  have HB : x.testBit i = (Go.bits .and .i64 ((x : Int) / 2 ^ i) 1 == 1) := by
    rw [show ((x : Int) / 2 ^ i) = shr .i64 (x : Int) (i : Int) by rw [shr_nat x i (by omega)]; simp]
    rw [hand]
    cases x.testBit i <;> rfl
  have p3 := eq_true (show (0 : Int) ≤ (i : Int) by omega)
  dsimp only
  rw [HB]
  clear h1 hb HB hand
  go_enter Try.func80, Try.ntmps80
  go_wp2
  go_ret
  exact ⟨rfl, 0, rfl⟩

set_option maxHeartbeats 8000000 in
set_option maxRecDepth 100000 in
theorem sent_at (t n : Nat) (hn : (t : Int) = 1 ∧ n = 2 ∨ (t : Int) = 2 ∧ n = 4 ∨ (t : Int) = 3 ∧ n = 8) (s : ByteArray) (hs : s.size ≤ 120) : ∀ (d i B : Nat) (w : World), w.heap[B]? = some (reader t s i) → i ≤ s.size → s.size - i < d →
    Calls Try.prog 68 #[.pointer (some ⟨B, 0, none⟩)] w fun e w' => e = .returned (.tuple #[.int .i64 ((sent t s d i).1 : Nat), .bool (sent t s d i).2.1]) ∧ Below B w w' ∧ w'.heap[B]? = some (reader t s (sent t s d i).2.2) := by
  have HT := Lib.hid (show impl_allWorlds.f (t : Int) = some (((allW (t : Int)).toNat : Nat) : Int) by rcases hn with ⟨h, _⟩ | ⟨h, _⟩ | ⟨h, _⟩ <;> rw [h] <;> decide)
  have HN := Lib.hid hn
  have hnW : (nW (t : Int)).toNat = n := by rcases hn with ⟨h, rfl⟩ | ⟨h, rfl⟩ | ⟨h, rfl⟩ <;> rw [h] <;> decide
  have ht3 : 1 ≤ t ∧ t ≤ 3 := by omega
  have hA := allW_nat_lt t
  have HN8 : n ≤ 8 := by omega
  intro d
  induction d with
  | zero => intro i B w _ _ h; omega
  | succ d ih =>
    intro i B w h hi hd
    have c0 : w.cell? ⟨B, 0, none⟩ = some (.int .i64 (t : Int)) := blk_cell h 0
    have HK := Lib.hid h
    have HIH := Lib.hid ih
    have HNX := Lib.hid (next_at t s i B hs hi)
    clear h ih hn
    simp only [sent]
    rw [hnW]
    have hb256 := byteAt_lt s i
    have HNXT := Lib.hid (nextAt_le s i hi)
    have HNL := Lib.hid (nextAt_lt s i hi)
    generalize hb : byteAt s i = b at *
    generalize nextAt s i = i1 at *
    generalize hAA : (allW (t : Int)).toNat = A at *
    go_enter Try.func68, Try.ntmps68
    go_wp2_with (go_at_call 64; refine (impl_allWorlds.calls (t : Int) _ _ HT.out).mono ?_; rintro e w' ⟨rfl, ⟨nd, rfl⟩⟩)
    refine (HNX.out (w.drewN nd) (blk_drewN HK.out nd)).mono ?_
    rintro e w1 ⟨rfl, hb1, hk1⟩
    have HB1 := Lib.hid (show Below B w w1 from (pw_below_drewN (Below.refl B w) nd).trans hb1)
    have HK1 := Lib.hid hk1
    have c1 : w1.cell? ⟨B, 0, none⟩ = some (.int .i64 (t : Int)) := blk_cell hk1 0
    clear c0 hb1 hk1
    rcases Classical.em (b = 48) with rfl | n48
    · go_wp2_with fail
      go_ret2
      exact ⟨rfl, HB1.out, HK1.out⟩
    rcases Classical.em (b = 49) with rfl | n49
    · go_wp2_with fail
      go_ret2
      exact ⟨rfl, HB1.out, HK1.out⟩
    rcases Classical.em (b = 97) with rfl | n97
    · go_wp2_with fail
      have HBc := Lib.hid (show Below B w (w1.alloc (.cells #[.int .i64 0] 3)) from HB1.out.alloc (by have := blk_lt HK1.out; omega) _)
      have HKc := Lib.hid (blk_alloc HK1.out (.cells #[.int .i64 0] 3))
      have HTc := Lib.hid (blk_new w1 (.cells #[.int .i64 0] 3))
      generalize w1.alloc (.cells #[.int .i64 0] 3) = wc at *
      have cc0 : wc.cell? ⟨B, 0, none⟩ = some (.int .i64 (t : Int)) := blk_cell HKc.out 0
      have cct : wc.cell? ⟨w1.heap.size, 0, none⟩ = some (.int .i64 0) := blk_cell HTc.out 0
      clear c1
      go_quiet ((go_at_call 76; refine Calls.quiet_of (setThat_at n (t : Int) HN.out 80 #[.pointer (some ⟨w1.heap.size, 0, none⟩)] (enters_of Try.func80 (by kernel_rfl) rfl) (fun x => x.testBit 0) _ (thingTells 0 w1.heap.size n (by omega) HN8 _ (blk_drewN HTc.out _)))))
      go_wp2_with fail
      go_ret2
      exact ⟨by simp [thingSet]; try omega, pw_below_drewN HBc.out _, blk_drewN HKc.out _⟩
    rcases Classical.em (b = 98) with rfl | n98
    · go_wp2_with fail
      have HBc := Lib.hid (show Below B w (w1.alloc (.cells #[.int .i64 1] 3)) from HB1.out.alloc (by have := blk_lt HK1.out; omega) _)
      have HKc := Lib.hid (blk_alloc HK1.out (.cells #[.int .i64 1] 3))
      have HTc := Lib.hid (blk_new w1 (.cells #[.int .i64 1] 3))
      generalize w1.alloc (.cells #[.int .i64 1] 3) = wc at *
      have cc0 : wc.cell? ⟨B, 0, none⟩ = some (.int .i64 (t : Int)) := blk_cell HKc.out 0
      have cct : wc.cell? ⟨w1.heap.size, 0, none⟩ = some (.int .i64 1) := blk_cell HTc.out 0
      clear c1
      go_quiet ((go_at_call 76; refine Calls.quiet_of (setThat_at n (t : Int) HN.out 80 #[.pointer (some ⟨w1.heap.size, 0, none⟩)] (enters_of Try.func80 (by kernel_rfl) rfl) (fun x => x.testBit 1) _ (thingTells 1 w1.heap.size n (by omega) HN8 _ (blk_drewN HTc.out _)))))
      go_wp2_with fail
      go_ret2
      exact ⟨by simp [thingSet]; try omega, pw_below_drewN HBc.out _, blk_drewN HKc.out _⟩
    rcases Classical.em (b = 99) with rfl | n99
    · go_wp2_with fail
      have HBc := Lib.hid (show Below B w (w1.alloc (.cells #[.int .i64 2] 3)) from HB1.out.alloc (by have := blk_lt HK1.out; omega) _)
      have HKc := Lib.hid (blk_alloc HK1.out (.cells #[.int .i64 2] 3))
      have HTc := Lib.hid (blk_new w1 (.cells #[.int .i64 2] 3))
      generalize w1.alloc (.cells #[.int .i64 2] 3) = wc at *
      have cc0 : wc.cell? ⟨B, 0, none⟩ = some (.int .i64 (t : Int)) := blk_cell HKc.out 0
      have cct : wc.cell? ⟨w1.heap.size, 0, none⟩ = some (.int .i64 2) := blk_cell HTc.out 0
      clear c1
      go_quiet ((go_at_call 76; refine Calls.quiet_of (setThat_at n (t : Int) HN.out 80 #[.pointer (some ⟨w1.heap.size, 0, none⟩)] (enters_of Try.func80 (by kernel_rfl) rfl) (fun x => x.testBit 2) _ (thingTells 2 w1.heap.size n (by omega) HN8 _ (blk_drewN HTc.out _)))))
      go_wp2_with fail
      go_ret2
      exact ⟨by simp [thingSet]; try omega, pw_below_drewN HBc.out _, blk_drewN HKc.out _⟩
    rcases Classical.em (b = 33) with rfl | n33
    · go_wp2_with fail
      have hi1 : i1 ≤ s.size ∧ s.size - i1 < d ∧ i ≤ i1 := by have h1 := HNXT.out; have h2 := HNL.out (by decide); omega
      refine (HIH.out i1 B w1 HK1.out hi1.1 hi1.2.1).mono ?_
      rintro e w2 ⟨rfl, hb2, hk2⟩
      have hr1 := sent_range t s (by rw [hnW]; exact HN8) d i1 hi1.1
      generalize hS1 : sent t s d i1 = R1 at *
      obtain ⟨r1, o1, p1⟩ := R1
      simp only [] at hb2 hk2 hr1
      have HB2 := Lib.hid (HB1.out.trans hb2)
      have HK2 := Lib.hid hk2
      have hx := xor_i64 A r1 (by omega) (by omega)
      clear c1 hb2 hk2
      go_wp2_with fail
      go_ret2
      exact ⟨rfl, HB2.out, HK2.out⟩
    rcases Classical.em (b = 40) with rfl | n40
    · go_wp2_with fail
      have hi1 : i1 ≤ s.size ∧ s.size - i1 < d ∧ i ≤ i1 := by have h1 := HNXT.out; have h2 := HNL.out (by decide); omega
      refine (HIH.out i1 B w1 HK1.out hi1.1 hi1.2.1).mono ?_
      rintro e w2 ⟨rfl, hb2, hk2⟩
      have hr1 := sent_range t s (by rw [hnW]; exact HN8) d i1 hi1.1
      generalize hS1 : sent t s d i1 = R1 at *
      obtain ⟨r1, o1, p1⟩ := R1
      simp only [] at hb2 hk2 hr1
      have HB2 := Lib.hid (HB1.out.trans hb2)
      have HK2 := Lib.hid hk2
      clear c1 hb2 hk2
      cases o1 with
      | false =>
        go_wp2_with fail
        go_ret2
        exact ⟨rfl, HB2.out, HK2.out⟩
      | true =>
        have hg := byteAt_lt s p1
        have HNX2 := Lib.hid (next_at t s p1 B hs hr1.2.1 w2 HK2.out)
        have hn2 := nextAt_le s p1 hr1.2.1
        generalize hG : byteAt s p1 = g at *
        generalize hP : nextAt s p1 = p2 at *
        go_wp2_with fail
        refine HNX2.out.mono ?_
        rintro e w3 ⟨rfl, hb3, hk3⟩
        have HB3 := Lib.hid (HB2.out.trans hb3)
        have HK3 := Lib.hid hk3
        clear hb3 hk3
        go_wp2_with fail
        have hi2 : p2 ≤ s.size ∧ s.size - p2 < d := by omega
        refine (HIH.out p2 B w3 HK3.out hi2.1 hi2.2).mono ?_
        rintro e w4 ⟨rfl, hb4, hk4⟩
        have hr2 := sent_range t s (by rw [hnW]; exact HN8) d p2 hi2.1
        generalize hS2 : sent t s d p2 = R2 at *
        obtain ⟨r2, o2, p3⟩ := R2
        simp only [] at hb4 hk4 hr2
        have HB4 := Lib.hid (HB3.out.trans hb4)
        have HK4 := Lib.hid hk4
        clear hb4 hk4
        cases o2 with
        | false =>
          go_wp2_with fail
          go_ret2
          exact ⟨rfl, HB4.out, HK4.out⟩
        | true =>
          have HNX4 := Lib.hid (next_at t s p3 B hs hr2.2.1 w4 HK4.out)
          generalize hC : byteAt s p3 = c at *
          generalize hP4 : nextAt s p3 = p4 at *
          go_wp2_with fail
          refine HNX4.out.mono ?_
          rintro e w5 ⟨rfl, hb5, hk5⟩
          have HB5 := Lib.hid (HB4.out.trans hb5)
          have HK5 := Lib.hid hk5
          clear hb5 hk5
          rcases Classical.em (c = 41) with rfl | n41
          · have hx := xor_i64 A r1 (by omega) (by omega)
            have hxl : A ^^^ r1 < 2 ^ 8 := Nat.xor_lt_two_pow (by omega) (by omega)
            have ha := and_i64 r1 r2 (by omega) (by omega)
            have ho := or_i64 r1 r2 (by omega) (by omega)
            have ho2 := or_i64 (A ^^^ r1) r2 (by omega) (by omega)
            rcases Classical.em (g = 38) with rfl | g38
            · go_wp2_with fail
              go_ret2
              exact ⟨rfl, HB5.out, HK5.out⟩
            rcases Classical.em (g = 124) with rfl | g124
            · go_wp2_with fail
              go_ret2
              exact ⟨rfl, HB5.out, HK5.out⟩
            rcases Classical.em (g = 62) with rfl | g62
            · go_wp2_with fail
              go_ret2
              exact ⟨rfl, HB5.out, HK5.out⟩
            have q1 : ((g : Int) == 38) = false := by simp; omega
            have q2 : ((g : Int) == 124) = false := by simp; omega
            have q3 : ((g : Int) == 62) = false := by simp; omega
            go_wp2_with fail
            go_ret2
            exact ⟨by simp [g38, g124, g62], HB5.out, by first | exact HK5.out | (simp [g38, g124, g62]; exact HK5.out)⟩
          · have q1 : ((c : Int) != 41) = true := by simp; omega
            go_wp2_with fail
            go_ret2
            exact ⟨by simp [n41], HB5.out, by first | exact HK5.out | (simp [n41]; exact HK5.out)⟩
    have q1 : ((b : Int) == 48) = false := by simp; omega
    have q2 : ((b : Int) == 49) = false := by simp; omega
    have q3 : ((b : Int) == 97) = false := by simp; omega
    have q4 : ((b : Int) == 98) = false := by simp; omega
    have q5 : ((b : Int) == 99) = false := by simp; omega
    have q6 : ((b : Int) == 33) = false := by simp; omega
    have q7 : ((b : Int) == 40) = false := by simp; omega
    go_wp2_with fail
    go_ret2
    exact ⟨by simp [n48, n49, n97, n98, n99, n33, n40], HB1.out, by first | exact HK1.out | (simp [n48, n49, n97, n98, n99, n33, n40]; exact HK1.out)⟩

/-- holdsIn, for a right number of things and a text that is not too long. -/
def holdsAt (t : Int) (s : ByteArray) : Int × Bool :=
  if (sent t.toNat s (s.size + 1) 0).2.1 = true ∧ (sent t.toNat s (s.size + 1) 0).2.2 = s.size then (((sent t.toNat s (s.size + 1) 0).1 : Int), true) else (-1, false)
def impl_holdsIn.f (t : Int) (s : ByteArray) : Option (Int × Bool) := if okT t = true ∧ s.size ≤ 120 then some (holdsAt t s) else none

set_option maxHeartbeats 2000000 in
theorem impl_holdsIn.calls (a0 : Int) (a1 : ByteArray) (r1 : Int) (r2 : Bool) (w : World) (h : impl_holdsIn.f a0 a1 = some (r1, r2)) :
    Calls Try.prog 49 #[.int .i64 a0, .string a1] w fun e w' => e = .returned (.tuple #[.int .i64 r1, .bool r2]) ∧ Below w.heap.size w w' := by
  unfold impl_holdsIn.f at h
  by_cases hc : okT a0 = true ∧ a1.size ≤ 120
  · rw [if_pos hc] at h
    have h := Option.some.inj h
    obtain ⟨ht, hs⟩ := hc
    obtain ⟨t, rfl⟩ : ∃ t : Nat, a0 = (t : Int) := ⟨a0.toNat, by unfold okT at ht; simp at ht; omega⟩
    have HS := Lib.hid (fun B w hk => sent_at t (nW (t : Int)).toNat (by rcases okT_cases ht with e | e | e <;> rw [e] <;> decide) a1 hs (a1.size + 1) 0 B w hk (by omega) (by omega))
    unfold holdsAt at h
    rw [Int.toNat_natCast] at h
    generalize sent t a1 (a1.size + 1) 0 = R at *
    obtain ⟨r, o, p⟩ := R
    simp only [] at h
    have HP := Lib.hid h
    clear h ht hs
    go_enter Try.func49, Try.ntmps49
    go_wp2_with fail
    refine (HS.out w.heap.size _ (blk_new w (reader t a1 0))).mono ?_
    rintro e w1 ⟨rfl, hb1, hk1⟩
    have c2 : w1.cell? ⟨w.heap.size, 2, none⟩ = some (.int .i64 (p : Int)) := blk_cell hk1 2
    have HB1 := Lib.hid (show Below w.heap.size w w1 from ((Below.refl _ w).alloc (Nat.le_refl _) _).trans hb1)
    clear hb1 hk1
    cases o with
    | false =>
      obtain ⟨rfl, rfl⟩ := Prod.mk.inj (show ((-1 : Int), false) = (r1, r2) from HP.out)
      go_wp2_with fail
      go_ret2
      exact ⟨rfl, HB1.out⟩
    | true =>
      by_cases hp : p = a1.size
      · have HP2 := HP.out
        rw [if_pos ⟨rfl, hp⟩] at HP2
        obtain ⟨rfl, rfl⟩ := Prod.mk.inj HP2
        clear HP2
        have d1 : ((p : Int) != (a1.size : Int)) = false := by simp [hp]
        have HPH := Lib.hid hp
        clear hp
        go_wp2_with fail
        go_ret2
        exact ⟨rfl, HB1.out⟩
      · have HP2 := HP.out
        rw [if_neg (by simp [hp])] at HP2
        obtain ⟨rfl, rfl⟩ := Prod.mk.inj HP2
        clear HP2
        have d1 : ((p : Int) != (a1.size : Int)) = true := by simp; omega
        have HPH := Lib.hid hp
        clear hp
        go_wp2_with fail
        go_ret2
        exact ⟨rfl, HB1.out⟩
  · rw [if_neg hc] at h
    exact absurd h (by simp)

end Go.Proofs.Ytcmhilebiojfaaa.Hand

/- worldText returns the sentence of a world from a thing on, for 1, 2 and 3 things, their worlds and things. -/
namespace Go.Proofs.Ytcmhilebiojfaaa.Hand
open Go.RowKit Go.Proofs.YtcmhilebiojfaaaW.PrintWords Go.Proofs.YtcmhilebiojfaaaW.PrintLast Go.Proofs.YtcmhilebiojfaaaW.PrintMore
set_option linter.unusedVariables false
set_option linter.unusedSimpArgs false

/-- The sentence of world w from thing i on, d things yet to come. -/
def wtext (w : Nat) : Nat → Nat → List UInt8
  | 0, _ => []
  | d + 1, i =>
    let own : List UInt8 := if w.testBit i = true then [97 + UInt8.ofNat i] else [33, 97 + UInt8.ofNat i]
    if d = 0 then own else [40] ++ own ++ [38] ++ wtext w d (i + 1) ++ [41]

/-- The places that worldText is asked at. -/
def wtAt (t w i : Int) : Bool := okT t && (decide (0 ≤ w) && decide (w < nW t) && (decide (0 ≤ i) && decide (i < t)))

def impl_worldText.f (t w i : Int) : Option ByteArray := if wtAt t w i = true then some ⟨(wtext w.toNat (t - i).toNat i.toNat).toArray⟩ else none

theorem wt_1_0_0 (w : World) : Calls Try.prog 67 #[.int .i64 1, .int .i64 0, .int .i64 0] w fun e w' => e = .returned (.string ⟨#[33, 97]⟩) ∧ w = w' := by
  go_enter Try.func67, Try.ntmps67
  go_wp2
  go_ret
  exact ⟨by first | rfl | decide, rfl⟩
theorem wt_1_1_0 (w : World) : Calls Try.prog 67 #[.int .i64 1, .int .i64 1, .int .i64 0] w fun e w' => e = .returned (.string ⟨#[97]⟩) ∧ w = w' := by
  go_enter Try.func67, Try.ntmps67
  go_wp2
  go_ret
  exact ⟨by first | rfl | decide, rfl⟩
theorem wt_2_0_1 (w : World) : Calls Try.prog 67 #[.int .i64 2, .int .i64 0, .int .i64 1] w fun e w' => e = .returned (.string ⟨#[33, 98]⟩) ∧ w = w' := by
  go_enter Try.func67, Try.ntmps67
  go_wp2
  go_ret
  exact ⟨by first | rfl | decide, rfl⟩
theorem wt_2_0_0 (w : World) : Calls Try.prog 67 #[.int .i64 2, .int .i64 0, .int .i64 0] w fun e w' => e = .returned (.string ⟨#[40, 33, 97, 38, 33, 98, 41]⟩) ∧ w = w' := by
  go_enter Try.func67, Try.ntmps67
  go_wp2_with (go_at_call 67; refine (wt_2_0_1 _).mono ?_; rintro e w' ⟨rfl, rfl⟩)
  go_ret
  exact ⟨by first | rfl | decide, rfl⟩
theorem wt_2_1_1 (w : World) : Calls Try.prog 67 #[.int .i64 2, .int .i64 1, .int .i64 1] w fun e w' => e = .returned (.string ⟨#[33, 98]⟩) ∧ w = w' := by
  go_enter Try.func67, Try.ntmps67
  go_wp2
  go_ret
  exact ⟨by first | rfl | decide, rfl⟩
theorem wt_2_1_0 (w : World) : Calls Try.prog 67 #[.int .i64 2, .int .i64 1, .int .i64 0] w fun e w' => e = .returned (.string ⟨#[40, 97, 38, 33, 98, 41]⟩) ∧ w = w' := by
  go_enter Try.func67, Try.ntmps67
  go_wp2_with (go_at_call 67; refine (wt_2_1_1 _).mono ?_; rintro e w' ⟨rfl, rfl⟩)
  go_ret
  exact ⟨by first | rfl | decide, rfl⟩
theorem wt_2_2_1 (w : World) : Calls Try.prog 67 #[.int .i64 2, .int .i64 2, .int .i64 1] w fun e w' => e = .returned (.string ⟨#[98]⟩) ∧ w = w' := by
  go_enter Try.func67, Try.ntmps67
  go_wp2
  go_ret
  exact ⟨by first | rfl | decide, rfl⟩
theorem wt_2_2_0 (w : World) : Calls Try.prog 67 #[.int .i64 2, .int .i64 2, .int .i64 0] w fun e w' => e = .returned (.string ⟨#[40, 33, 97, 38, 98, 41]⟩) ∧ w = w' := by
  go_enter Try.func67, Try.ntmps67
  go_wp2_with (go_at_call 67; refine (wt_2_2_1 _).mono ?_; rintro e w' ⟨rfl, rfl⟩)
  go_ret
  exact ⟨by first | rfl | decide, rfl⟩
theorem wt_2_3_1 (w : World) : Calls Try.prog 67 #[.int .i64 2, .int .i64 3, .int .i64 1] w fun e w' => e = .returned (.string ⟨#[98]⟩) ∧ w = w' := by
  go_enter Try.func67, Try.ntmps67
  go_wp2
  go_ret
  exact ⟨by first | rfl | decide, rfl⟩
theorem wt_2_3_0 (w : World) : Calls Try.prog 67 #[.int .i64 2, .int .i64 3, .int .i64 0] w fun e w' => e = .returned (.string ⟨#[40, 97, 38, 98, 41]⟩) ∧ w = w' := by
  go_enter Try.func67, Try.ntmps67
  go_wp2_with (go_at_call 67; refine (wt_2_3_1 _).mono ?_; rintro e w' ⟨rfl, rfl⟩)
  go_ret
  exact ⟨by first | rfl | decide, rfl⟩
theorem wt_3_0_2 (w : World) : Calls Try.prog 67 #[.int .i64 3, .int .i64 0, .int .i64 2] w fun e w' => e = .returned (.string ⟨#[33, 99]⟩) ∧ w = w' := by
  go_enter Try.func67, Try.ntmps67
  go_wp2
  go_ret
  exact ⟨by first | rfl | decide, rfl⟩
theorem wt_3_0_1 (w : World) : Calls Try.prog 67 #[.int .i64 3, .int .i64 0, .int .i64 1] w fun e w' => e = .returned (.string ⟨#[40, 33, 98, 38, 33, 99, 41]⟩) ∧ w = w' := by
  go_enter Try.func67, Try.ntmps67
  go_wp2_with (go_at_call 67; refine (wt_3_0_2 _).mono ?_; rintro e w' ⟨rfl, rfl⟩)
  go_ret
  exact ⟨by first | rfl | decide, rfl⟩
theorem wt_3_0_0 (w : World) : Calls Try.prog 67 #[.int .i64 3, .int .i64 0, .int .i64 0] w fun e w' => e = .returned (.string ⟨#[40, 33, 97, 38, 40, 33, 98, 38, 33, 99, 41, 41]⟩) ∧ w = w' := by
  go_enter Try.func67, Try.ntmps67
  go_wp2_with (go_at_call 67; refine (wt_3_0_1 _).mono ?_; rintro e w' ⟨rfl, rfl⟩)
  go_ret
  exact ⟨by first | rfl | decide, rfl⟩
theorem wt_3_1_2 (w : World) : Calls Try.prog 67 #[.int .i64 3, .int .i64 1, .int .i64 2] w fun e w' => e = .returned (.string ⟨#[33, 99]⟩) ∧ w = w' := by
  go_enter Try.func67, Try.ntmps67
  go_wp2
  go_ret
  exact ⟨by first | rfl | decide, rfl⟩
theorem wt_3_1_1 (w : World) : Calls Try.prog 67 #[.int .i64 3, .int .i64 1, .int .i64 1] w fun e w' => e = .returned (.string ⟨#[40, 33, 98, 38, 33, 99, 41]⟩) ∧ w = w' := by
  go_enter Try.func67, Try.ntmps67
  go_wp2_with (go_at_call 67; refine (wt_3_1_2 _).mono ?_; rintro e w' ⟨rfl, rfl⟩)
  go_ret
  exact ⟨by first | rfl | decide, rfl⟩
theorem wt_3_1_0 (w : World) : Calls Try.prog 67 #[.int .i64 3, .int .i64 1, .int .i64 0] w fun e w' => e = .returned (.string ⟨#[40, 97, 38, 40, 33, 98, 38, 33, 99, 41, 41]⟩) ∧ w = w' := by
  go_enter Try.func67, Try.ntmps67
  go_wp2_with (go_at_call 67; refine (wt_3_1_1 _).mono ?_; rintro e w' ⟨rfl, rfl⟩)
  go_ret
  exact ⟨by first | rfl | decide, rfl⟩
theorem wt_3_2_2 (w : World) : Calls Try.prog 67 #[.int .i64 3, .int .i64 2, .int .i64 2] w fun e w' => e = .returned (.string ⟨#[33, 99]⟩) ∧ w = w' := by
  go_enter Try.func67, Try.ntmps67
  go_wp2
  go_ret
  exact ⟨by first | rfl | decide, rfl⟩
theorem wt_3_2_1 (w : World) : Calls Try.prog 67 #[.int .i64 3, .int .i64 2, .int .i64 1] w fun e w' => e = .returned (.string ⟨#[40, 98, 38, 33, 99, 41]⟩) ∧ w = w' := by
  go_enter Try.func67, Try.ntmps67
  go_wp2_with (go_at_call 67; refine (wt_3_2_2 _).mono ?_; rintro e w' ⟨rfl, rfl⟩)
  go_ret
  exact ⟨by first | rfl | decide, rfl⟩
theorem wt_3_2_0 (w : World) : Calls Try.prog 67 #[.int .i64 3, .int .i64 2, .int .i64 0] w fun e w' => e = .returned (.string ⟨#[40, 33, 97, 38, 40, 98, 38, 33, 99, 41, 41]⟩) ∧ w = w' := by
  go_enter Try.func67, Try.ntmps67
  go_wp2_with (go_at_call 67; refine (wt_3_2_1 _).mono ?_; rintro e w' ⟨rfl, rfl⟩)
  go_ret
  exact ⟨by first | rfl | decide, rfl⟩
theorem wt_3_3_2 (w : World) : Calls Try.prog 67 #[.int .i64 3, .int .i64 3, .int .i64 2] w fun e w' => e = .returned (.string ⟨#[33, 99]⟩) ∧ w = w' := by
  go_enter Try.func67, Try.ntmps67
  go_wp2
  go_ret
  exact ⟨by first | rfl | decide, rfl⟩
theorem wt_3_3_1 (w : World) : Calls Try.prog 67 #[.int .i64 3, .int .i64 3, .int .i64 1] w fun e w' => e = .returned (.string ⟨#[40, 98, 38, 33, 99, 41]⟩) ∧ w = w' := by
  go_enter Try.func67, Try.ntmps67
  go_wp2_with (go_at_call 67; refine (wt_3_3_2 _).mono ?_; rintro e w' ⟨rfl, rfl⟩)
  go_ret
  exact ⟨by first | rfl | decide, rfl⟩
theorem wt_3_3_0 (w : World) : Calls Try.prog 67 #[.int .i64 3, .int .i64 3, .int .i64 0] w fun e w' => e = .returned (.string ⟨#[40, 97, 38, 40, 98, 38, 33, 99, 41, 41]⟩) ∧ w = w' := by
  go_enter Try.func67, Try.ntmps67
  go_wp2_with (go_at_call 67; refine (wt_3_3_1 _).mono ?_; rintro e w' ⟨rfl, rfl⟩)
  go_ret
  exact ⟨by first | rfl | decide, rfl⟩
theorem wt_3_4_2 (w : World) : Calls Try.prog 67 #[.int .i64 3, .int .i64 4, .int .i64 2] w fun e w' => e = .returned (.string ⟨#[99]⟩) ∧ w = w' := by
  go_enter Try.func67, Try.ntmps67
  go_wp2
  go_ret
  exact ⟨by first | rfl | decide, rfl⟩
theorem wt_3_4_1 (w : World) : Calls Try.prog 67 #[.int .i64 3, .int .i64 4, .int .i64 1] w fun e w' => e = .returned (.string ⟨#[40, 33, 98, 38, 99, 41]⟩) ∧ w = w' := by
  go_enter Try.func67, Try.ntmps67
  go_wp2_with (go_at_call 67; refine (wt_3_4_2 _).mono ?_; rintro e w' ⟨rfl, rfl⟩)
  go_ret
  exact ⟨by first | rfl | decide, rfl⟩
theorem wt_3_4_0 (w : World) : Calls Try.prog 67 #[.int .i64 3, .int .i64 4, .int .i64 0] w fun e w' => e = .returned (.string ⟨#[40, 33, 97, 38, 40, 33, 98, 38, 99, 41, 41]⟩) ∧ w = w' := by
  go_enter Try.func67, Try.ntmps67
  go_wp2_with (go_at_call 67; refine (wt_3_4_1 _).mono ?_; rintro e w' ⟨rfl, rfl⟩)
  go_ret
  exact ⟨by first | rfl | decide, rfl⟩
theorem wt_3_5_2 (w : World) : Calls Try.prog 67 #[.int .i64 3, .int .i64 5, .int .i64 2] w fun e w' => e = .returned (.string ⟨#[99]⟩) ∧ w = w' := by
  go_enter Try.func67, Try.ntmps67
  go_wp2
  go_ret
  exact ⟨by first | rfl | decide, rfl⟩
theorem wt_3_5_1 (w : World) : Calls Try.prog 67 #[.int .i64 3, .int .i64 5, .int .i64 1] w fun e w' => e = .returned (.string ⟨#[40, 33, 98, 38, 99, 41]⟩) ∧ w = w' := by
  go_enter Try.func67, Try.ntmps67
  go_wp2_with (go_at_call 67; refine (wt_3_5_2 _).mono ?_; rintro e w' ⟨rfl, rfl⟩)
  go_ret
  exact ⟨by first | rfl | decide, rfl⟩
theorem wt_3_5_0 (w : World) : Calls Try.prog 67 #[.int .i64 3, .int .i64 5, .int .i64 0] w fun e w' => e = .returned (.string ⟨#[40, 97, 38, 40, 33, 98, 38, 99, 41, 41]⟩) ∧ w = w' := by
  go_enter Try.func67, Try.ntmps67
  go_wp2_with (go_at_call 67; refine (wt_3_5_1 _).mono ?_; rintro e w' ⟨rfl, rfl⟩)
  go_ret
  exact ⟨by first | rfl | decide, rfl⟩
theorem wt_3_6_2 (w : World) : Calls Try.prog 67 #[.int .i64 3, .int .i64 6, .int .i64 2] w fun e w' => e = .returned (.string ⟨#[99]⟩) ∧ w = w' := by
  go_enter Try.func67, Try.ntmps67
  go_wp2
  go_ret
  exact ⟨by first | rfl | decide, rfl⟩
theorem wt_3_6_1 (w : World) : Calls Try.prog 67 #[.int .i64 3, .int .i64 6, .int .i64 1] w fun e w' => e = .returned (.string ⟨#[40, 98, 38, 99, 41]⟩) ∧ w = w' := by
  go_enter Try.func67, Try.ntmps67
  go_wp2_with (go_at_call 67; refine (wt_3_6_2 _).mono ?_; rintro e w' ⟨rfl, rfl⟩)
  go_ret
  exact ⟨by first | rfl | decide, rfl⟩
theorem wt_3_6_0 (w : World) : Calls Try.prog 67 #[.int .i64 3, .int .i64 6, .int .i64 0] w fun e w' => e = .returned (.string ⟨#[40, 33, 97, 38, 40, 98, 38, 99, 41, 41]⟩) ∧ w = w' := by
  go_enter Try.func67, Try.ntmps67
  go_wp2_with (go_at_call 67; refine (wt_3_6_1 _).mono ?_; rintro e w' ⟨rfl, rfl⟩)
  go_ret
  exact ⟨by first | rfl | decide, rfl⟩
theorem wt_3_7_2 (w : World) : Calls Try.prog 67 #[.int .i64 3, .int .i64 7, .int .i64 2] w fun e w' => e = .returned (.string ⟨#[99]⟩) ∧ w = w' := by
  go_enter Try.func67, Try.ntmps67
  go_wp2
  go_ret
  exact ⟨by first | rfl | decide, rfl⟩
theorem wt_3_7_1 (w : World) : Calls Try.prog 67 #[.int .i64 3, .int .i64 7, .int .i64 1] w fun e w' => e = .returned (.string ⟨#[40, 98, 38, 99, 41]⟩) ∧ w = w' := by
  go_enter Try.func67, Try.ntmps67
  go_wp2_with (go_at_call 67; refine (wt_3_7_2 _).mono ?_; rintro e w' ⟨rfl, rfl⟩)
  go_ret
  exact ⟨by first | rfl | decide, rfl⟩
theorem wt_3_7_0 (w : World) : Calls Try.prog 67 #[.int .i64 3, .int .i64 7, .int .i64 0] w fun e w' => e = .returned (.string ⟨#[40, 97, 38, 40, 98, 38, 99, 41, 41]⟩) ∧ w = w' := by
  go_enter Try.func67, Try.ntmps67
  go_wp2_with (go_at_call 67; refine (wt_3_7_1 _).mono ?_; rintro e w' ⟨rfl, rfl⟩)
  go_ret
  exact ⟨by first | rfl | decide, rfl⟩
set_option maxHeartbeats 4000000 in
theorem impl_worldText.calls (a0 a1 a2 : Int) (r : ByteArray) (w : World) (h : impl_worldText.f a0 a1 a2 = some r) :
    Calls Try.prog 67 #[.int .i64 a0, .int .i64 a1, .int .i64 a2] w fun e w' => e = .returned (.string r) ∧ Drawn0 w w' := by
  unfold impl_worldText.f at h
  cases hw : wtAt a0 a1 a2 with
  | false => rw [hw] at h; simp at h
  | true =>
    rw [if_pos hw] at h
    obtain rfl := Option.some.inj h
    clear h
    unfold wtAt at hw
    simp only [Bool.and_eq_true, decide_eq_true_eq] at hw
    obtain ⟨h1, ⟨h2, h3⟩, h4, h5⟩ := hw
    unfold nW at h3
    rw [if_pos h1] at h3
    rcases okT_cases h1 with rfl | rfl | rfl
    · simp at h3
      rcases (show a1 = 0 ∨ a1 = 1 by omega) with rfl | rfl
      · rcases (show a2 = 0 by omega) with rfl
        · exact (wt_1_0_0 w).mono fun e w' ⟨h1, h2⟩ => ⟨h1.trans rfl, h2 ▸ Drawn0.refl _⟩
      · rcases (show a2 = 0 by omega) with rfl
        · exact (wt_1_1_0 w).mono fun e w' ⟨h1, h2⟩ => ⟨h1.trans rfl, h2 ▸ Drawn0.refl _⟩
    · simp at h3
      rcases (show a1 = 0 ∨ a1 = 1 ∨ a1 = 2 ∨ a1 = 3 by omega) with rfl | rfl | rfl | rfl
      · rcases (show a2 = 0 ∨ a2 = 1 by omega) with rfl | rfl
        · exact (wt_2_0_0 w).mono fun e w' ⟨h1, h2⟩ => ⟨h1.trans rfl, h2 ▸ Drawn0.refl _⟩
        · exact (wt_2_0_1 w).mono fun e w' ⟨h1, h2⟩ => ⟨h1.trans rfl, h2 ▸ Drawn0.refl _⟩
      · rcases (show a2 = 0 ∨ a2 = 1 by omega) with rfl | rfl
        · exact (wt_2_1_0 w).mono fun e w' ⟨h1, h2⟩ => ⟨h1.trans rfl, h2 ▸ Drawn0.refl _⟩
        · exact (wt_2_1_1 w).mono fun e w' ⟨h1, h2⟩ => ⟨h1.trans rfl, h2 ▸ Drawn0.refl _⟩
      · rcases (show a2 = 0 ∨ a2 = 1 by omega) with rfl | rfl
        · exact (wt_2_2_0 w).mono fun e w' ⟨h1, h2⟩ => ⟨h1.trans rfl, h2 ▸ Drawn0.refl _⟩
        · exact (wt_2_2_1 w).mono fun e w' ⟨h1, h2⟩ => ⟨h1.trans rfl, h2 ▸ Drawn0.refl _⟩
      · rcases (show a2 = 0 ∨ a2 = 1 by omega) with rfl | rfl
        · exact (wt_2_3_0 w).mono fun e w' ⟨h1, h2⟩ => ⟨h1.trans rfl, h2 ▸ Drawn0.refl _⟩
        · exact (wt_2_3_1 w).mono fun e w' ⟨h1, h2⟩ => ⟨h1.trans rfl, h2 ▸ Drawn0.refl _⟩
    · simp at h3
      rcases (show a1 = 0 ∨ a1 = 1 ∨ a1 = 2 ∨ a1 = 3 ∨ a1 = 4 ∨ a1 = 5 ∨ a1 = 6 ∨ a1 = 7 by omega) with rfl | rfl | rfl | rfl | rfl | rfl | rfl | rfl
      · rcases (show a2 = 0 ∨ a2 = 1 ∨ a2 = 2 by omega) with rfl | rfl | rfl
        · exact (wt_3_0_0 w).mono fun e w' ⟨h1, h2⟩ => ⟨h1.trans rfl, h2 ▸ Drawn0.refl _⟩
        · exact (wt_3_0_1 w).mono fun e w' ⟨h1, h2⟩ => ⟨h1.trans rfl, h2 ▸ Drawn0.refl _⟩
        · exact (wt_3_0_2 w).mono fun e w' ⟨h1, h2⟩ => ⟨h1.trans rfl, h2 ▸ Drawn0.refl _⟩
      · rcases (show a2 = 0 ∨ a2 = 1 ∨ a2 = 2 by omega) with rfl | rfl | rfl
        · exact (wt_3_1_0 w).mono fun e w' ⟨h1, h2⟩ => ⟨h1.trans rfl, h2 ▸ Drawn0.refl _⟩
        · exact (wt_3_1_1 w).mono fun e w' ⟨h1, h2⟩ => ⟨h1.trans rfl, h2 ▸ Drawn0.refl _⟩
        · exact (wt_3_1_2 w).mono fun e w' ⟨h1, h2⟩ => ⟨h1.trans rfl, h2 ▸ Drawn0.refl _⟩
      · rcases (show a2 = 0 ∨ a2 = 1 ∨ a2 = 2 by omega) with rfl | rfl | rfl
        · exact (wt_3_2_0 w).mono fun e w' ⟨h1, h2⟩ => ⟨h1.trans rfl, h2 ▸ Drawn0.refl _⟩
        · exact (wt_3_2_1 w).mono fun e w' ⟨h1, h2⟩ => ⟨h1.trans rfl, h2 ▸ Drawn0.refl _⟩
        · exact (wt_3_2_2 w).mono fun e w' ⟨h1, h2⟩ => ⟨h1.trans rfl, h2 ▸ Drawn0.refl _⟩
      · rcases (show a2 = 0 ∨ a2 = 1 ∨ a2 = 2 by omega) with rfl | rfl | rfl
        · exact (wt_3_3_0 w).mono fun e w' ⟨h1, h2⟩ => ⟨h1.trans rfl, h2 ▸ Drawn0.refl _⟩
        · exact (wt_3_3_1 w).mono fun e w' ⟨h1, h2⟩ => ⟨h1.trans rfl, h2 ▸ Drawn0.refl _⟩
        · exact (wt_3_3_2 w).mono fun e w' ⟨h1, h2⟩ => ⟨h1.trans rfl, h2 ▸ Drawn0.refl _⟩
      · rcases (show a2 = 0 ∨ a2 = 1 ∨ a2 = 2 by omega) with rfl | rfl | rfl
        · exact (wt_3_4_0 w).mono fun e w' ⟨h1, h2⟩ => ⟨h1.trans rfl, h2 ▸ Drawn0.refl _⟩
        · exact (wt_3_4_1 w).mono fun e w' ⟨h1, h2⟩ => ⟨h1.trans rfl, h2 ▸ Drawn0.refl _⟩
        · exact (wt_3_4_2 w).mono fun e w' ⟨h1, h2⟩ => ⟨h1.trans rfl, h2 ▸ Drawn0.refl _⟩
      · rcases (show a2 = 0 ∨ a2 = 1 ∨ a2 = 2 by omega) with rfl | rfl | rfl
        · exact (wt_3_5_0 w).mono fun e w' ⟨h1, h2⟩ => ⟨h1.trans rfl, h2 ▸ Drawn0.refl _⟩
        · exact (wt_3_5_1 w).mono fun e w' ⟨h1, h2⟩ => ⟨h1.trans rfl, h2 ▸ Drawn0.refl _⟩
        · exact (wt_3_5_2 w).mono fun e w' ⟨h1, h2⟩ => ⟨h1.trans rfl, h2 ▸ Drawn0.refl _⟩
      · rcases (show a2 = 0 ∨ a2 = 1 ∨ a2 = 2 by omega) with rfl | rfl | rfl
        · exact (wt_3_6_0 w).mono fun e w' ⟨h1, h2⟩ => ⟨h1.trans rfl, h2 ▸ Drawn0.refl _⟩
        · exact (wt_3_6_1 w).mono fun e w' ⟨h1, h2⟩ => ⟨h1.trans rfl, h2 ▸ Drawn0.refl _⟩
        · exact (wt_3_6_2 w).mono fun e w' ⟨h1, h2⟩ => ⟨h1.trans rfl, h2 ▸ Drawn0.refl _⟩
      · rcases (show a2 = 0 ∨ a2 = 1 ∨ a2 = 2 by omega) with rfl | rfl | rfl
        · exact (wt_3_7_0 w).mono fun e w' ⟨h1, h2⟩ => ⟨h1.trans rfl, h2 ▸ Drawn0.refl _⟩
        · exact (wt_3_7_1 w).mono fun e w' ⟨h1, h2⟩ => ⟨h1.trans rfl, h2 ▸ Drawn0.refl _⟩
        · exact (wt_3_7_2 w).mono fun e w' ⟨h1, h2⟩ => ⟨h1.trans rfl, h2 ▸ Drawn0.refl _⟩
end Go.Proofs.Ytcmhilebiojfaaa.Hand
