-- By a program of this session (AEV), for this claim: the law's row, out of its function's contract and a plain proof.
import Derived.Test.YthaannpgcbpjkaaRows
import Derived.Test.YthaannpgcbpjkaaPureReportEvents
import Derived.WalkKit
import Derived.JoinedCond
import Derived.Test.YthaannpgcbpjkaaBulk
import Derived.ProofKit
import Derived.OpenShut
import Derived.ShutString
import Derived.ChangeOld
import Derived.Below
import Derived.SizedLaws
import Derived.Lib.SmallJoins
import Derived.Carry
import Derived.Shelf.Abstract
namespace Go.Proofs.Ythaannpgcbpjkaa.reportEvents
open Go.Joins
open Go.ChangeShapes Go.WideShapes Go.ChangeAt Go.RowKit
open Go.ChangeMaps (open_string shut_string)
open Go.Proofs.Ythaannpgcbpjkaa.Aev
set_option linter.unusedVariables false
theorem own : ownKnob Try.prog.godebug = none := by kernel_rfl
theorem laidOut : laidOutB Try.prog = true := by kernel_rfl
set_option maxRecDepth 100000 in
theorem lifted (os : Os) (started : os.Started) (H : Type) (enc : TypeId × Value → H) (F : Stop.Interp) :
    ReturnsInHanded {} Try.checked os 3 .any ((Rows.OpenSpec.upto Rows.reportEventsSpec).pre6 enc Try.prog Try.f3 Rows.reportEventsUptoRow.domain false) (((Rows.OpenSpec.upto Rows.reportEventsSpec).at F).post enc Try.prog Try.f3 false true false false) := by
  refine returnsInHanded_of_cond (C := Try.checked) (s := Rows.OpenSpec.upto Rows.reportEventsSpec) (k := Rows.uptoSmall) rfl own started (by kernel_rfl) Try.func3
    (OpenSpec.witness (enc := enc) (C := Try.checked) (s := Rows.OpenSpec.upto Rows.reportEventsSpec) (k := Rows.uptoSmall) rfl false ⟨#[], #[.agg #[.int .i64 0, .int .i64 0, .int .i64 0, .int .i64 0, .slice none 0 0, .slice none 0 0], .agg #[.bool false, .int .i64 0, .slice none 0 0]], []⟩ 8 (by kernel_rfl) (by kernel_rfl) (by kernel_rfl)
      (x := ([.agg [.lit (.int .i64 0), .lit (.int .i64 0), .lit (.int .i64 0), .lit (.int .i64 0), .nil, .nil], .agg [.lit (.bool false), .agg [.lit (.int .i64 0), .nil]]], [], [])) (by kernel_rfl) rfl (by kernel_rfl)) ?_
  intro W base args ds gs before hval0 hW hcnd hk0 _
  have hval : ∀ (j : Nat) t v, Try.f3.params[j]? = some t → args[j]? = some v → Value.okWide Try.prog W .any base t v := hval0
  have hW' := hW
  obtain ⟨p, q, hA0, hV, rfl, hfz, hnd⟩ := hW
  have hA : DataW.TrodAll enc Try.prog W 0 (fun _ => true) true Try.f3.params.toList args.toList ds p := hA0
  rw [Try.params3] at hA hval
  obtain ⟨v0, vs0, d0, ds0, p0, q0, hargs, rfl, rfl, h0, r0⟩ := trodAll_cons hA
  obtain ⟨v1, vs1, d1, ds1, p1, q1, rfl, rfl, rfl, h1, r1⟩ := trodAll_cons r0
  obtain ⟨rfl, rfl, rfl⟩ := trodAll_nil r1
  obtain rfl : args = #[v0, v1] := by cases args; simp_all
  obtain ⟨rfl, rfl⟩ := trodVars_none hV
  have lt0 : ∀ x ∈ p0, x.block < W.heap.size := by obtain ⟨m, hm⟩ := h0; exact DataW.trod_lt m _ _ _ hm
  obtain ⟨x0, fit0, rep0, blk_x0⟩ := argb_agg h0 (hval 0 25 v0 rfl rfl) T_api_Event (by kernel_rfl) (by kernel_rfl) (by kernel_rfl)
  have lt1 : ∀ x ∈ p1, x.block < W.heap.size := by obtain ⟨m, hm⟩ := h1; exact DataW.trod_lt m _ _ _ hm
  obtain ⟨x1, fit1, rep1, blk_x1⟩ := argb_agg h1 (hval 1 31 v1 rfl rfl) T_api_Told (by kernel_rfl) (by kernel_rfl) (by kernel_rfl)
  have hb : Rows.uptoBulkAll ([d0, d1] ++ []) ≤ 1048576 := of_decide_eq_true hk0
  simp only [List.append_nil, Rows.uptoBulkAll] at hb
  obtain ⟨k, hk⟩ := Pure.ReportEvents x0 x1 fit0 fit1 (Nat.le_trans (Nat.add_le_add blk_x0 blk_x1) hb)
  have eF : (transomlaw42_ReportEvents.ct (transomlaw42_ReportEvents.f k)).F [.v (.agg (flat T_api_Event x0)), .v (.agg (flat T_api_Told x1))] [] some = (transomlaw42_ReportEvents.f k x0.1 x0.2.1 x0.2.2.1 x0.2.2.2.1 x0.2.2.2.2.1 x0.2.2.2.2.2.1 x1.1 x1.2.1.1 x1.2.1.2.1).bind fun r => some (transomlaw42_ReportEvents.e r) := by kernel_rfl
  refine (law_calls (w := W) (args := #[v0, v1]) (transomlaw42_ReportEvents.ok k) (tvs := [.v (.agg (flat T_api_Event x0)), .v (.agg (flat T_api_Told x1))]) (eF.trans (by rw [hk]; rfl)) rfl (fun p hp => by simp [globs] at hp) (Go.Proofs.enters_of Try.func3 (by kernel_rfl) rfl _ _) ⟨rep0, rep1, trivial⟩).mono fun e W' ⟨he, bel⟩ => ?_
  subst he
  exact ⟨_, rfl, _, _, _, [], _, [], hW', trodAll_mk1 (shut_bool Try.underlying4 _), (trodAll_cons_mk (Below.trod laidOut (by kernel_rfl) (of_decide_eq_true (by kernel_rfl)) h0 bel lt0) (trodAll_cons_mk (Below.trod laidOut (by kernel_rfl) (of_decide_eq_true (by kernel_rfl)) h1 bel lt1) trodAll_mk0)), rfl, bel.frame _, fun h => by cases h⟩
theorem over : Rows.reportEventsUptoRow.holds Try.pinned (Rows.OpenSpec.upto Rows.reportEventsSpec) :=
  OpenClaim.holds_of_cond 3 Try.f3 rfl rfl rfl rfl rfl rfl rfl ⟨rfl, rfl, rfl, rfl, rfl⟩ rfl rfl rfl rfl rfl (by kernel_rfl) Try.func3 (by kernel_rfl)
    (of_decide_eq_true (by kernel_rfl)) (by unfold Func.isWrapper; first | (rw [if_pos (by decide +kernel)]; kernel_rfl) | (rw [if_neg (by decide +kernel)]; exact ⟨rfl, rfl⟩))
    (fun os started H enc _ F => lifted os started H enc F)
theorem proved : Rows.ReportEventsUptoSaid := over
#print axioms proved
end Go.Proofs.Ythaannpgcbpjkaa.reportEvents
namespace Go.Proofs.Ythaannpgcbpjkaa
/-- The row, under a short name, for the claim. -/
theorem reportEvents_holds : Rows.ReportEventsUptoSaid := reportEvents.proved
end Go.Proofs.Ythaannpgcbpjkaa
