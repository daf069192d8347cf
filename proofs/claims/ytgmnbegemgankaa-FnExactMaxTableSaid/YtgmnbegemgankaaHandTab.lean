/- tableBy returns the row of what a function gives for each set, from the empty one on; MaxTable just the row that the words below tell, for all arguments. -/
import Derived.Test.YtgmnbegemgankaaHandBase
import Derived.Lib.Hide
import Derived.Deep.LoopGhost
import Derived.Deep.QuietTactic
import Derived.BigQuiet
import Derived.Shelf.Abstract
namespace Go.Proofs.Ytgmnbegemgankaa.Hand
open Go.RowKit Go.Proofs.Ytgmnbegemgankaa.B Go.Proofs.YtgmnbegemgankaaW.PrintWords Go.Proofs.YtgmnbegemgankaaW.PrintLast Go.Proofs.YtgmnbegemgankaaW.PrintMore
set_option linter.unusedVariables false
set_option linter.unusedSimpArgs false

/-- A function of sets, as a function value that captured lb: at each set below n it answers, in every later world; nothing that was there turns. -/
def Gives (g : Nat) (lb : Array Value) (n : Nat) (f : Nat → Int) (w : World) : Prop :=
  ∀ (W : World) (x : Nat), x < n → Below w.heap.size w W → Calls Try.prog g (#[.int .i64 x] ++ lb) W fun e w' => e = .returned (.int .i64 (f x)) ∧ Below W.heap.size W w'

theorem Gives.later {g : Nat} {lb : Array Value} {n : Nat} {f : Nat → Int} {w w1 : World} (h : Gives g lb n f w) (hb : Below w.heap.size w w1) : Gives g lb n f w1 :=
  fun W x hx hW => h W x hx (hb.trans (hW.mono hb.size))

theorem infoI : (Try.prog.info? 3).map (fun i => (i.zero, i.size, i.bytes)) = some (some (.int .i64 0), 1, 8) := by kernel_rfl

theorem range_snoc (k : Nat) (f : Nat → Int) : (List.range (k + 1)).map f = (List.range k).map f ++ [f k] := by
  rw [List.range_succ, List.map_append]; rfl

set_option maxHeartbeats 2000000 in
set_option maxRecDepth 100000 in
theorem tableBy_at (n : Nat) (t : Int) (hn : n ≤ 256) (ht : impl_allWorlds.f t = some ((n : Int) - 1)) (g : Nat) (lb : Array Value) (eg : ∀ args w, (callFunc g args).run Try.prog w = .ok (.enter g args) w) (f : Nat → Int) (w : World) (hp : Gives g lb n f w) :
    Calls Try.prog 57 #[.int .i64 t, .func (.func g) #[] lb] w fun e w' => ∃ v : Value, e = .returned v ∧ Kd.R (Kd.int .i64) 3 w' w.heap.size (fun _ => True) v ((List.range n).map f) ∧ Below w.heap.size w w' := by
  have HB := Aside0.mk (Below.refl w.heap.size w)
  have A6 := Aside0.mk ht
  have HP := Lib.hid hp
  clear hp ht
  obtain ⟨y288, hy288⟩ : ∃ y_ : List Int, y_ = (([] : List Int)) := ⟨_, rfl⟩
  have Ny288 := Aside0.mk hy288
  clear hy288
  go_enter Try.func57, Try.ntmps57
  go_wp2_with (first | ((with_reducible refine gate_dst (N := 7) rfl ?_); refine Kd.R_lit (Kd.int .i64) _ 3 ?hg (N := 7) ?hd (xs := ([] : List Int)) (inner := []) (ok := fun _ => True) (okp := fun _ => True) ?hr ?hp (fun _ hk => hk) trivial (Below.refl _ _) (Nat.le_refl _) (by simp) ?_; (case hd => rfl); (case hg => rfl); (case hr => first | (go_simp; done) | (go_simp; rfl)); (case hp => exact (Reps.none _ _)); intro v289 w3 ho4 hb hg_ hnew_; clear hg_ hnew_; (first | rw [← Ny288.out] at ho4 | (simp only [Int.reduceToNat] at ho4; rw [← Ny288.out] at ho4)); have n0_ := Aside0.mk (Kd.R_lower ho4 (below_size (by repeat (first | (with_reducible first | exact HB.out | apply below_alloc | apply pw_below_drewN | apply below_drew1) | exact HB.out)))); have n1_ := Aside0.mk (below_step (by repeat (first | (with_reducible first | exact HB.out | apply below_alloc | apply pw_below_drewN | apply below_drew1) | exact HB.out)) hb); clear HB; have HO290 := n0_; have HB := n1_; clear n0_ n1_; clear hb ho4) | (go_at_call 67; (with_reducible refine (impl_allWorlds.calls t _ _ A6.out).mono ?_); rintro e w' ⟨rfl, ⟨nd, rfl⟩⟩))
  go_loopg [5, 11] n (fun gg v5 v11 w' => ∃ kk : Nat, kk ≤ n ∧ n - kk ≤ gg ∧ v11 = .int .i64 kk ∧ Aside0 (Kd.R (Kd.int .i64) 3 w' w.heap.size (fun _ => True) v5 ((List.range kk).map f)) ∧ Aside0 (Below w.heap.size w w'))
  case atStart => exact ⟨0, by omega, by omega, rfl, ⟨by rw [show (List.range 0).map f = y288 from Ny288.out.symm]; (with_reducible repeat (first | apply Kd.R_alloc | apply Kd.R_drewN | apply Kd.R_drew)); exact HO290.out⟩, ⟨by repeat (first | (with_reducible first | exact HB.out | apply below_alloc | apply pw_below_drewN | apply below_drew1) | exact HB.out)⟩⟩
  case round =>
    obtain ⟨kk, hkk, hg, rfl, HO_5, HB⟩ := hrel
    by_cases hlt : kk < n
    · have hltz : (kk : Int) < (n : Int) := by omega
      have HC := Lib.hid (HP.out wr kk hlt HB.out)
      obtain ⟨y295, hy295⟩ : ∃ y_ : List Int, y_ = (List.range kk).map f ++ [f kk] := ⟨_, rfl⟩
      obtain ⟨x5_1, hx5⟩ : ∃ y_ : List Int, y_ = (List.range kk).map f := ⟨_, rfl⟩
      rw [← hx5] at hy295 HO_5
      have HL : Aside0 (x5_1.length < 17592186044416) := ⟨by rw [hx5]; simp; omega⟩
      have Nx5 := Aside0.mk hx5
      have Ny295 := Aside0.mk hy295
      clear hx5 hy295
      go_wp2_with fail
      refine HC.out.mono ?_
      rintro e w1 ⟨rfl, hb1⟩
      have n0_ := Aside0.mk (below_step HB.out hb1)
      have n1_ := Aside0.mk (Kd.R_below HO_5.out hb1)
      clear HB HO_5 hb1 HC
      have HB := n0_
      have HO_5 := n1_
      clear n0_ n1_
      go_wp2_with ((with_reducible refine gate_builtin (b := .append) (xs := #[.tmp 14, .tmp 18]) rfl ?_); at_builtin; refine Kd.R_append (Kd.int .i64) (w0 := w) w.heap.size rfl (.tmp 14) (.tmp 18) 29 3 (.int .i64 0) 8 rfl Try.underlying29 infoI rfl (by decide) (by omega) u5 x5_1 (f kk) [.int .i64 (f kk)] (fun _ => True) (fun _ => False) rfl rfl ?aP (fun _ hk => hk.elim) ?aF ?aO ?aB ?aS ?aL ?_; (case aP => exact rfl); (case aB => exact (by repeat (first | (with_reducible first | exact HB.out | apply below_alloc | apply pw_below_drewN | apply below_drew1) | exact HB.out))); (case aF => exact (fun _ _ => trivial)); (case aO => exact (by (with_reducible repeat (first | apply Kd.R_alloc | apply Kd.R_drewN | apply Kd.R_drew)); exact HO_5.out)); (case aS => exact (below_size (by repeat (first | (with_reducible first | exact HB.out | apply below_alloc | apply pw_below_drewN | apply below_drew1) | exact HB.out)))); (case aL => have := HL.out; omega); intro v296 w16 ho hb hg hat; rw [← Ny295.out] at ho; have n0_ := Aside0.mk (hb); have n1_ := Aside0.mk (ho); clear HB; clear HO_5; have HB := n0_; have HO297 := n1_; clear n0_ n1_; clear ho hb hg hat)
      go_roundg (n - (kk + 1))
      case measure => omega
      case rel => exact ⟨kk + 1, by omega, by omega, by go_num, ⟨by rw [range_snoc, ← Nx5.out, ← Ny295.out]; (with_reducible repeat (first | apply Kd.R_alloc | apply Kd.R_drewN | apply Kd.R_drew)); exact HO297.out⟩, ⟨by repeat (first | (with_reducible first | exact HB.out | apply below_alloc | apply pw_below_drewN | apply below_drew1) | exact HB.out)⟩⟩
    · have : kk = n := by omega
      subst this
      go_wp2
      go_ret
      exact ⟨_, rfl, by (with_reducible repeat (first | apply Kd.R_alloc | apply Kd.R_drewN | apply Kd.R_drew)); exact HO_5.out, by repeat (first | (with_reducible first | exact HB.out | apply below_alloc | apply pw_below_drewN | apply below_drew1) | exact HB.out)⟩

/-- The entry of MaxTable for a set. -/
def maxE (c : Int) (s : Nat) : Int := if s &&& c.toNat = 0 then (s : Int) else ((s &&& c.toNat : Nat) : Int)
/-- MaxTable, where there is one. -/
def maxTab (t c : Int) : List Int := (List.range ((allW t).toNat + 1)).map (maxE c)
def impl_MaxTable.f (t c : Int) : Option (List Int) := some (if t ≤ 2 ∧ okS t c = true ∧ ¬ c = 0 then maxTab t c else [])

theorem maxGives (c : Int) (B n : Nat) (hc0 : 0 ≤ c) (hc1 : c ≤ 255) (hn : n ≤ 256) (w : World) (h1 : w.heap[B]? = some (.cells #[.int .i64 c] 3 (0, 0))) :
    Gives 58 #[.pointer (some ⟨B, 0, none⟩)] n (maxE c) w := by
  intro W x hx hb
  have hc2 : W.cell? ⟨B, 0, none⟩ = some (.int .i64 c) := (hb.cell (p := ⟨B, 0, none⟩) (blk_lt h1)).trans (blk_cell h1 0)
  obtain ⟨a, rfl⟩ := Int.eq_ofNat_of_zero_le hc0
  have hand : Go.bits .and .i64 (x : Int) (a : Int) = ((x &&& a : Nat) : Int) := and_i64 x a (by omega) (by omega)
  clear h1 hb
  by_cases hz : x &&& a = 0
  · have hz0 : (Go.bits .and .i64 (x : Int) (a : Int) == 0) = true := by rw [hand, hz]; rfl
    have HM : Aside0 (maxE (a : Int) x = (x : Int)) := ⟨by unfold maxE; rw [Int.toNat_natCast, if_pos hz]⟩
    clear hz hand
    go_enter Try.func58, Try.ntmps58
    go_wp2
    go_ret
    exact ⟨by rw [HM.out]; rfl, Below.refl _ _⟩
  · have hz0 : (Go.bits .and .i64 (x : Int) (a : Int) == 0) = false := by rw [hand]; simp; omega
    have HM : Aside0 (maxE (a : Int) x = Go.bits .and .i64 (x : Int) (a : Int)) := ⟨by unfold maxE; rw [Int.toNat_natCast, if_neg hz, hand]⟩
    clear hz hand
    go_enter Try.func58, Try.ntmps58
    go_wp2
    go_ret
    exact ⟨by rw [HM.out]; rfl, Below.refl _ _⟩

set_option maxHeartbeats 2000000 in
theorem impl_MaxTable.calls (a0 : Int) (a1 : Int) (r : List Int) (w : World) (h : impl_MaxTable.f a0 a1 = some r) :
    Calls Try.prog 34 #[.int .i64 a0, .int .i64 a1] w fun e w' => ∃ v0_ : Value, e = .returned (v0_) ∧ Kd.R (Kd.int .i64) 3 w' w.heap.size (fun _ => True) v0_ r ∧ Below w.heap.size w w' := by
  obtain hr := Option.some.inj h
  clear h
  have HIS := fun b (hb : okS a0 a1 = b) => Lib.hid (show impl_isSet.f a0 a1 = some b by rw [isSet_eq, hb])
  by_cases h1 : 2 < a0
  · rw [if_neg (by omega)] at hr
    subst hr
    have d1 : decide (2 < a0) = true := decide_eq_true h1
    clear HIS h1
    go_enter Try.func34, Try.ntmps34
    go_wp2
    go_ret
    exact ⟨_, rfl, Kd.R_nil _ _ _ _ _, (Below.refl _ w).alloc (Nat.le_refl _) _⟩
  · have d1 : decide (2 < a0) = false := decide_eq_false h1
    cases hs : okS a0 a1 with
    | false =>
      rw [if_neg (by rw [hs]; simp)] at hr
      subst hr
      have HI := HIS false hs
      clear HIS h1 hs
      go_enter Try.func34, Try.ntmps34
      go_wp2_with (go_at_call 48; refine (impl_isSet.calls a0 a1 false _ HI.out).mono ?_; rintro e w' ⟨rfl, ⟨nd, rfl⟩⟩)
      go_ret
      exact ⟨_, rfl, Kd.R_nil _ _ _ _ _, pw_below_drewN ((Below.refl _ w).alloc (Nat.le_refl _) _) nd⟩
    | true =>
      have HI := HIS true hs
      clear HIS
      by_cases h3 : a1 = 0
      · rw [if_neg (by simp [h3])] at hr
        subst hr
        have d3 : (a1 == 0) = true := beq_iff_eq.mpr h3
        clear h1 hs h3
        go_enter Try.func34, Try.ntmps34
        go_wp2_with (go_at_call 48; refine (impl_isSet.calls a0 a1 true _ HI.out).mono ?_; rintro e w' ⟨rfl, ⟨nd, rfl⟩⟩)
        go_ret
        exact ⟨_, rfl, Kd.R_nil _ _ _ _ _, pw_below_drewN ((Below.refl _ w).alloc (Nat.le_refl _) _) nd⟩
      · rw [if_pos ⟨by omega, hs, h3⟩] at hr
        subst hr
        have d3 : (a1 == 0) = false := beq_eq_false_iff_ne.mpr h3
        have hok := okS_cases hs
        have HN := Lib.hid (show impl_allWorlds.f a0 = some ((((allW a0).toNat + 1 : Nat) : Int) - 1) ∧ (allW a0).toNat + 1 ≤ 256 from allW_nat hok.1)
        have HOK := Lib.hid hok
        clear h1 hs h3 hok
        go_enter Try.func34, Try.ntmps34
        go_wp2_with (first | (go_at_call 48; refine (impl_isSet.calls a0 a1 true _ HI.out).mono ?_; rintro e w' ⟨rfl, ⟨nd, rfl⟩⟩) )
        refine (tableBy_at ((allW a0).toNat + 1) a0 HN.out.2 HN.out.1 58 #[.pointer (some ⟨w.heap.size, 0, none⟩)] (enters_of Try.func58 (by kernel_rfl) rfl) (maxE a1) ((w.alloc (.cells #[.int .i64 a1] 3)).drewN nd)
          (maxGives a1 w.heap.size _ HOK.out.2.1 HOK.out.2.2.2 HN.out.2 _ (show ((w.alloc (.cells #[.int .i64 a1] 3)).drewN nd).heap[w.heap.size]? = some (.cells #[.int .i64 a1] 3 (0, 0)) from blk_new w _))).mono ?_
        rintro e w2 ⟨v, rfl, ho, hb⟩
        have HH := Lib.hid (And.intro ho hb)
        clear ho hb
        go_wp2
        go_ret
        have hbw : Below w.heap.size w ((w.alloc (.cells #[.int .i64 a1] 3)).drewN nd) := pw_below_drewN ((Below.refl _ w).alloc (Nat.le_refl _) _) nd
        exact ⟨v, rfl, Kd.R_lower HH.out.1 hbw.size, below_step hbw HH.out.2⟩

end Go.Proofs.Ytgmnbegemgankaa.Hand
