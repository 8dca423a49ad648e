import Derived.Test.YtijjlpgcpdapnaaGreatDoorTys
import Derived.Test.YtijjlpgcpdapnaaGreatDoorProg
import Derived.Laws.Externs
import Derived.Lib.Bytealg
import Derived.Test.YtijjlpgcpdapnaaGreatDoorF0
import Derived.Test.YtijjlpgcpdapnaaGreatDoorF1
import Derived.Test.YtijjlpgcpdapnaaGreatDoorF2
import Derived.Test.YtijjlpgcpdapnaaGreatDoorF3
import Derived.Test.YtijjlpgcpdapnaaGreatDoorF5
import Derived.Test.YtijjlpgcpdapnaaGreatDoorAevY
import Derived.Test.YtijjlpgcpdapnaaGreatDoorAevZ
import Derived.Test.YtijjlpgcpdapnaaGreatDoorDel
import Derived.Below
import Derived.Lib.SliceRun
import Derived.Lib.Walk
import Derived.RowKitTokens
import Derived.Shelf.RegionOpenPlain
import Derived.WalkKit
/- By a program of this session (AEV): functions of the program as plain functions, and that the machine does what they say. -/
namespace Go.Proofs.YtijjlpgcpdapnaaGreatDoor.Aev
set_option linter.unusedVariables false
set_option linter.unusedSimpArgs false
set_option maxRecDepth 100000
set_option maxHeartbeats 4000000
open Go Go.Proofs.Tryz
namespace change_makes
def e (r : Bool) : Res := ⟨.v (.one (.d .bool r)), []⟩
abbrev T0 (δ : Type) : Type := D_api_Change → Option δ
abbrev A0 {δ : Type} (g : T0 δ) : Arm δ := ⟨[.v (.one (.i 104 true T_api_Change))], [], fun x y => g x.1⟩
abbrev T1 (δ : Type) : Type := D_api_Change → Option δ
abbrev A1 {δ : Type} (g : T1 δ) : Arm δ := ⟨[.v (.one (.i 105 true T_api_Change))], [], fun x y => g x.1⟩
abbrev T2 (δ : Type) : Type := D_api_Change → Option δ
abbrev A2 {δ : Type} (g : T2 δ) : Arm δ := ⟨[.v (.one (.i 106 true T_api_Change))], [], fun x y => g x.1⟩
abbrev T3 (δ : Type) : Type := D_api_Change → Option δ
abbrev A3 {δ : Type} (g : T3 δ) : Arm δ := ⟨[.v (.one (.i 107 true T_api_Change))], [], fun x y => g x.1⟩
abbrev T4 (δ : Type) : Type := D_api_Change → Option δ
abbrev A4 {δ : Type} (g : T4 δ) : Arm δ := ⟨[.v (.one (.i 108 true T_api_Change))], [], fun x y => g x.1⟩
abbrev T5 (δ : Type) : Type := D_api_Change → Option δ
abbrev A5 {δ : Type} (g : T5 δ) : Arm δ := ⟨[.v (.one (.i 109 true T_api_Change))], [], fun x y => g x.1⟩
abbrev G0 : Type := T0 Bool
abbrev G1 : Type := T1 Bool
abbrev G2 : Type := T2 Bool
abbrev G3 : Type := T3 Bool
abbrev G4 : Type := T4 Bool
abbrev G5 : Type := T5 Bool
def ct (g0 : G0) (g1 : G1) (g2 : G2) (g3 : G3) (g4 : G4) (g5 : G5) : Ct := mkCt 0 [] [A0 g0, A1 g1, A2 g2, A3 g3, A4 g4, A5 g5] e
section
variable {β : Type} 
noncomputable abbrev env : FEnv := mkEnv prog f41 [] 0 [] []
def c0 (ret : Bool → Option β) (a0 : D_api_Change) : Option β := (ret (true))
def c1 (ret : Bool → Option β) (a0 : D_api_Change) : Option β := (ret (false))
def c2 (ret : Bool → Option β) (a0 : D_api_Change) : Option β := (ret (false))
def c3 (ret : Bool → Option β) (a0 : D_api_Change) : Option β := (ret (false))
def c4 (ret : Bool → Option β) (a0 : D_api_Change) : Option β := (ret (false))
def c5 (ret : Bool → Option β) (a0 : D_api_Change) : Option β := (ret (false))
theorem ev0 : EvA (env) [] [0] e (A0 (c0 some)) := fun x y => Eq.trans (b := (A0 (c0 fun r => some (e r))).G x y) (by kernel_rfl) (by simp only [A0, c0, bo, so, oa, os, on, ofs])
theorem ev1 : EvA (env) [] [0] e (A1 (c1 some)) := fun x y => Eq.trans (b := (A1 (c1 fun r => some (e r))).G x y) (by kernel_rfl) (by simp only [A1, c1, bo, so, oa, os, on, ofs])
theorem ev2 : EvA (env) [] [0] e (A2 (c2 some)) := fun x y => Eq.trans (b := (A2 (c2 fun r => some (e r))).G x y) (by kernel_rfl) (by simp only [A2, c2, bo, so, oa, os, on, ofs])
theorem ev3 : EvA (env) [] [0] e (A3 (c3 some)) := fun x y => Eq.trans (b := (A3 (c3 fun r => some (e r))).G x y) (by kernel_rfl) (by simp only [A3, c3, bo, so, oa, os, on, ofs])
theorem ev4 : EvA (env) [] [0] e (A4 (c4 some)) := fun x y => Eq.trans (b := (A4 (c4 fun r => some (e r))).G x y) (by kernel_rfl) (by simp only [A4, c4, bo, so, oa, os, on, ofs])
theorem ev5 : EvA (env) [] [0] e (A5 (c5 some)) := fun x y => Eq.trans (b := (A5 (c5 fun r => some (e r))).G x y) (by kernel_rfl) (by simp only [A5, c5, bo, so, oa, os, on, ofs])
end
def f0 (k : Nat) (a0 : D_api_Change) : Option Bool := c0  some a0
def f1 (k : Nat) (a0 : D_api_Change) : Option Bool := c1  some a0
def f2 (k : Nat) (a0 : D_api_Change) : Option Bool := c2  some a0
def f3 (k : Nat) (a0 : D_api_Change) : Option Bool := c3  some a0
def f4 (k : Nat) (a0 : D_api_Change) : Option Bool := c4  some a0
def f5 (k : Nat) (a0 : D_api_Change) : Option Bool := c5  some a0
noncomputable abbrev E (k : Nat) : FEnv := env  
theorem hE (k : Nat) : EnvOK (E k).toEnv := ctsOK L0
theorem ok (k : Nat) : CtOK prog 41 (ct (f0 k) (f1 k) (f2 k) (f3 k) (f4 k) (f5 k)) := fn_ok func41 rfl (by decide) (hE k) L0 (Lc ev0 (Lc ev1 (Lc ev2 (Lc ev3 (Lc ev4 (Lc ev5 L0))))))
end change_makes
/-! ### api_Col_42: function 42 (no body) -/
def api_Col_42.ct (g : List D_api_Col → Option (List D_api_Col)) : Ct where
 nin := 0
 mv := []
 F := fun tvs blks {β} K => match tvs, blks with
  | [.v (.one (.d (.sl (.pair .str (.pair (.int .i64) (.pair .bool (.pair (.pair (.int .i64) (.pair (.int .i64) (.pair (.int .u64) (.pair .str .unit)))) .unit))))) a0))], [] => (g a0).bind fun r => K ⟨.v (.one (.own 0)), [some (.own T_api_Col true r)]⟩
  | _, _ => none
 legit := fun _ _ K _ h => by split at h; exact (legit1 K h :); simp at h
section
open Go.RowKit Go.Lib Go.Shelf
theorem api_Col_42.tsl : Go.Proofs.Tryz.prog.underlying 22 = some (.slice 30) := by kernel_rfl
theorem api_Col_42.info : ∃ i0, Go.Proofs.Tryz.prog.info? 30 = some i0 ∧ i0.zero = some (.agg #[.string (ByteArray.mk #[]), .int .i64 0, .bool false, .int .i64 0, .int .i64 0, .int .u64 0, .string (ByteArray.mk #[])]) ∧ i0.size = 7 ∧ i0.bytes = 72 := ⟨_, rfl, by kernel_rfl, by kernel_rfl, by kernel_rfl⟩
theorem api_Col_42.row_calls (p : Addr) (c n : Nat) (zs : List Value) (w : World) (hn : zs.length = n * 7) (hbig : n * 72 ≤ 140737488355328) (hone : ∀ u ∈ zs, u.oneCell' = true) (hc : ∀ j u, zs[j]? = some u → w.cell? (p.add j) = some u) :
  Calls Go.Proofs.Tryz.prog 42 #[.slice (some p) n c] w fun e w' => ∃ v', e = .returned v' ∧ w'.ownsRow w.heap.size 30 7 v' n zs ∧ Below w.heap.size w w' := by
 have t24 := api_Col_42.tsl
 obtain ⟨i0, hi, hz0, hz1, hz2⟩ := api_Col_42.info
 have q24 : ∀ (w : World) (a : Option Addr) (n c n' c' : Nat), (binOp .eql 22 (.slice a n c) (.slice none n' c')).run Go.Proofs.Tryz.prog w = .ok (.bool a.isNone) w := fun w a n c n' c' => Lib.run_eql_slice_nil w _ _ a n c n' c' t24
 have u24 : ∀ w, Sem.run Go.Proofs.Tryz.prog (underlying 22) w = .ok (TypeDesc.slice 30) w := run_underlying t24
 have A : Hid (∀ j u, zs[j]? = some u → w.cell? (p.add j) = some u) := hc
 clear hc
 have HN : Hid (zs.length = n * 7) := hn
 clear hn
 have HO : Hid (∀ u ∈ zs, u.oneCell' = true) := hone
 clear hone
 go_enter Go.Proofs.Tryz.func42, Go.Proofs.Tryz.ntmps42
 go_wp2_with (at_builtin; refine wpList_append_own _ rfl _ _ 22 rfl w.heap.size 30 i0 (.agg #[.string (ByteArray.mk #[]), .int .i64 0, .bool false, .int .i64 0, .int .i64 0, .int .u64 0, .string (ByteArray.mk #[])]) 7 72 t24 hi hz0 hz1 hz2 rfl (by decide) _ _ _ rfl (World.ownsRow_made w #[] 0 (Nat.le_refl _) (Nat.zero_le _) rfl) p n c zs rfl ?qc1 ?qc2 ?qc3 ?qc4 ?qc5 ?qc6 ?_)
 case qc1 => exact HN.out
 case qc2 =>
  intro j u hj
  exact Lib.cell?_alloc_some _ (A.out j u hj)
 case qc3 => exact HO.out
 case qc4 => unfold maxLen; omega
 case qc5 => omega
 case qc6 => simp
 intro v' w1 hown hgrow hnil
 go_wp2
 go_ret
 exact ⟨v', rfl, by simpa using hown, ((Below.refl _ w).alloc (Nat.le_refl _) _).grown hgrow (by simp) (by intro k hk; simp [Value.ownBlock] at hk; omega)⟩
end
def api_Col_42.f (k : Nat) (a0 : List D_api_Col) : Option (List D_api_Col) := if 1 ≤ a0.length ∧ a0.length ≤ 1000000000 then some a0 else none
theorem api_Col_42.ok (k : Nat) : CtOK Go.Proofs.Tryz.prog 42 (api_Col_42.ct (api_Col_42.f k)) := by
 intro tvs blks res hF w S ρ H vals hm hv
 simp only [api_Col_42.ct] at hF
 split at hF
 ·rename_i a0
  simp only [api_Col_42.f] at hF
  split at hF
  ·rename_i hsz
   simp only [os, Option.some.injEq] at hF
   subst hF
   obtain ⟨h1, h2⟩ := hsz
   have h1 : 1 ≤ List.length a0 := h1
   have h2 : List.length a0 ≤ 1000000000 := h2
   obtain ⟨v0, m0, rfl, h0, hv⟩ := All2.cons_left hv
   cases All2.nil_left hv
   left
   refine ⟨Go.Proofs.enters_of Go.Proofs.Tryz.func42 (by kernel_rfl) rfl _ _, ?_⟩
   obtain ⟨base, cap, news, rfl, hcap, hrows, hnil, hp⟩ := rd_rows (t := T_api_Col) (show Rd w S (.sl T_api_Col) [v0] a0 from h0)
   cases base with
   | none =>
    obtain ⟨e, _⟩ := hnil rfl
    rw [e] at h1; simp at h1
   | some p =>
    have hl : news.length = List.length a0 * 7 := hrows.1
    refine (api_Col_42.row_calls p cap (List.length a0) news w hl (by omega) hrows.one (hp p rfl).2).mono fun e w' ⟨v', e1, hown, hbel⟩ => ?_
    have hold : ∀ b, S b → w'.heap[b]? = w.heap[b]? := fun b hb => hbel.block b (hm.old b hb)
    rcases hown.2 with ⟨_, hn⟩ | ⟨g, cp, cur, rfl, hg, hh, hc1, hc2, hc3, hc4⟩
    ·omega
    ·have hlt : g < w'.heap.size := (Array.getElem?_eq_some_iff.1 hh).1
     have hro : RowOwn w' S T_api_Col (.slice (some ⟨g, 0, none⟩) (List.length a0) cp) a0 g := by
      refine rows_rowOwn (t := T_api_Col) hc1 hh hc3 ?_
      have e : (cur.toList.take (List.length a0 * Ty.size T_api_Col)) = news := hc4
      rw [e]
      exact hrows.mono (fun _ x => x) hold
     have h0n : (live ([] : List Blk)) 0 = none := rfl
     obtain ⟨hmem, _⟩ := hm.adopt (n := 0) h0n (home := some g) (w' := w') (fun b hb => by
       cases hb
       exact ⟨.inr (Nat.le_trans hm.size hg), fun hs => by have := hm.old _ hs; omega, fun m C hC => by simp [live] at hC⟩)
      hbel.size (fun k hk _ => hbel.block k hk) hbel.os hbel.tape hbel.output (v := .slice (some ⟨g, 0, none⟩) (List.length a0) cp) (B := .own T_api_Col true a0) ⟨_, by rw [upd_same], .inl ⟨_, rfl, hro⟩⟩
     refine ⟨_, S, upd ρ 0 (some (.slice (some ⟨g, 0, none⟩) (List.length a0) cp)), upd H 0 (some g), e1, ?_, ⟨by rw [upd_same], _, _, _, rfl⟩⟩
     have e : (fun n => ([some (Blk.own T_api_Col true a0)] : List (Option Blk))[n]?) = upd (live []) 0 (some (some (.own T_api_Col true a0))) := by
      funext n
      cases n with
      | zero => rw [upd_same]; rfl
      | succ n => rw [upd_other _ _ (by omega)]; rfl
     rw [e]; exact hmem
  ·simp at hF
 ·simp at hF


namespace change_one
abbrev R : Type := Int ⊕ (Int × ByteArray × Int × (List D_api_Col))
def e (r : R) : Res := Sum.elim (fun r =>  ⟨.tup [(.one (.raw (.slice none 0 0))), (.one (.d (.int .i64) r))], []⟩) (fun r =>  ⟨.tup [(.one (.slb 0 1)), (.one (.d (.int .i64) r.1))], [some (.box [(.d .str r.2.1), (.d (.int .i64) r.2.2.1), (.d (.sl T_api_Col) r.2.2.2)])]⟩) r
abbrev T (δ : Type) : Type := ByteArray → Int → (List D_api_Col) → Int → Option δ
abbrev A {δ : Type} (g : T δ) : Arm δ := ⟨[.s T_api_Table, .d (.int .i64)], [], fun x y => g x.1.1.1 x.1.1.2.1 x.1.1.2.2.1 x.2.1⟩
abbrev G : Type := T R
def ek {β : Type} (r : R) (K : Res → Option β) : Option β := Sum.elim (fun r => K ⟨.tup [(.one (.raw (.slice none 0 0))), (.one (.d (.int .i64) r))], []⟩) (fun r => K ⟨.tup [(.one (.slb 0 1)), (.one (.d (.int .i64) r.1))], [some (.box [(.d .str r.2.1), (.d (.int .i64) r.2.2.1), (.d (.sl T_api_Col) r.2.2.2)])]⟩) r
theorem hk {β : Type} (r : R) (K : Res → Option β) : ek r K = K (e r) := by rcases r with _ | _ <;> rfl
def ct (g : G) : Ct := mkCtS 0 [] [A g] e ek hk
section
variable {β : Type} 
noncomputable abbrev env : FEnv := mkEnv prog f153 [] 0 [0] []
def c (ret : R → Option β) (a0 : ByteArray) (a1 : Int) (a2 : List D_api_Col) (a3 : Int) : Option β := (bif (a3 != (0 : Int)) then (ret (.inl (a3))) else (ret (.inr ((0 : Int), a0, a1, a2))))
theorem ev : EvA (env) [] [0, 1] e (A (c some)) := fun x y => Eq.trans (b := (A (c fun r => some (e r))).G x y) (by kernel_rfl) (by simp only [A, c, bo, so, oa, os, on, ofs])
end
def f (k : Nat) (a0 : ByteArray) (a1 : Int) (a2 : List D_api_Col) (a3 : Int) : Option R := c  some a0 a1 a2 a3
noncomputable abbrev E (k : Nat) : FEnv := env  
theorem hE (k : Nat) : EnvOK (E k).toEnv := ctsOK L0
theorem ok (k : Nat) : CtOK prog 153 (ct (f k)) := fn_okS hk (fn_ok func153 rfl (by decide) (hE k) L0 (Lc ev L0))
end change_one
namespace change_create_targets
abbrev R : Type := Int ⊕ (Int × ByteArray × Int × (List D_api_Col))
def e (r : R) : Res := Sum.elim (fun r =>  ⟨.tup [(.one (.raw (.slice none 0 0))), (.one (.d (.int .i64) r))], []⟩) (fun r =>  ⟨.tup [(.one (.slb 0 1)), (.one (.d (.int .i64) r.1))], [some (.box [(.d .str r.2.1), (.d (.int .i64) r.2.2.1), (.d (.sl T_api_Col) r.2.2.2)])]⟩) r
abbrev T (δ : Type) : Type := D_api_Change → (List D_api_Table) → Option δ
abbrev A {δ : Type} (g : T δ) : Arm δ := ⟨[.s T_api_Change, .d (.sl T_api_Table)], [], fun x y => g x.1.1 x.2.1⟩
abbrev G : Type := T R
def ek {β : Type} (r : R) (K : Res → Option β) : Option β := Sum.elim (fun r => K ⟨.tup [(.one (.raw (.slice none 0 0))), (.one (.d (.int .i64) r))], []⟩) (fun r => K ⟨.tup [(.one (.slb 0 1)), (.one (.d (.int .i64) r.1))], [some (.box [(.d .str r.2.1), (.d (.int .i64) r.2.2.1), (.d (.sl T_api_Col) r.2.2.2)])]⟩) r
theorem hk {β : Type} (r : R) (K : Res → Option β) : ek r K = K (e r) := by rcases r with _ | _ <;> rfl
def ct (g : G) : Ct := mkCtS 0 [] [A g] e ek hk
section
variable {β : Type} (g45 : schema_Check.G) (g153 : change_one.G)
noncomputable abbrev env : FEnv := mkEnv prog f152 [(45, schema_Check.ct g45), (153, change_one.ct g153)] 0 [0] []
def c (ret : R → Option β) (a0 : D_api_Change) (a1 : List D_api_Table) : Option β := ((g45 a0.2.2.2.2.2.2.2.2.2.1.1 a0.2.2.2.2.2.2.2.2.2.1.2.1 a0.2.2.2.2.2.2.2.2.2.1.2.2.1).bind fun r0 => ((g153 a0.2.2.2.2.2.2.2.2.2.1.1 a0.2.2.2.2.2.2.2.2.2.1.2.1 a0.2.2.2.2.2.2.2.2.2.1.2.2.1 r0).bind fun r1 => (Sum.elim (fun r2 => (ret (.inl (r2)))) (fun r3 => (ret (.inr (r3.1, r3.2.1, r3.2.2.1, r3.2.2.2)))) r1)))
variable {g45} {g153}
theorem ev : EvA (env g45 g153) [] [0, 1] e (A (c g45 g153 some)) := fun x y => Eq.trans (b := (A (c g45 g153 fun r => some (e r))).G x y) (by kernel_rfl) (by simp only [A, c, bo, so, oa, os, on, ofs])
end
def f (k : Nat) (a0 : D_api_Change) (a1 : List D_api_Table) : Option R := c (schema_Check.f k) (change_one.f k) some a0 a1
noncomputable abbrev E (k : Nat) : FEnv := env (schema_Check.f k) (change_one.f k) 
theorem hE (k : Nat) : EnvOK (E k).toEnv := ctsOK (Lc (schema_Check.ok k) (Lc (change_one.ok k) L0))
theorem ok (k : Nat) : CtOK prog 152 (ct (f k)) := fn_okS hk (fn_ok func152 rfl (by decide) (hE k) L0 (Lc ev L0))
end change_create_targets
namespace schema_CheckCol
def e (r : Int) : Res := ⟨.v (.one (.d (.int .i64) r)), []⟩
abbrev T (δ : Type) : Type := ByteArray → Int → Bool → Int → Int → Int → ByteArray → Option δ
abbrev A {δ : Type} (g : T δ) : Arm δ := ⟨[.s T_api_Col], [], fun x y => g x.1.1.1 x.1.1.2.1 x.1.1.2.2.1 x.1.1.2.2.2.1.1 x.1.1.2.2.2.1.2.1 x.1.1.2.2.2.1.2.2.1 x.1.1.2.2.2.1.2.2.2.1⟩
abbrev G : Type := T Int
def ct (g : G) : Ct := mkCt 0 [] [A g] e
section
variable {β : Type} (g99 : schema_col.G)
noncomputable abbrev env : FEnv := mkEnv prog f156 [(71, schema_number.ct ), (99, schema_col.ct g99)] 0 [] []
def c (ret : Int → Option β) (a0 : ByteArray) (a1 : Int) (a2 : Bool) (a3 a4 a5 : Int) (a6 : ByteArray) : Option β := ((g99 a0 a1 a2 a3 a4 a5 a6).bind fun r0 => (Sum.elim (fun r1 => (ret (r1.1))) (fun r2 => (ret ((0 : Int)))) r0))
variable {g99}
theorem ev : EvA (env g99) [] [0] e (A (c g99 some)) := fun x y => Eq.trans (b := (A (c g99 fun r => some (e r))).G x y) (by kernel_rfl) (by simp only [A, c, bo, so, oa, os, on, ofs])
end
def f (k : Nat) (a0 : ByteArray) (a1 : Int) (a2 : Bool) (a3 a4 a5 : Int) (a6 : ByteArray) : Option Int := c (schema_col.f k) some a0 a1 a2 a3 a4 a5 a6
noncomputable abbrev E (k : Nat) : FEnv := env  (schema_col.f k) 
theorem hE (k : Nat) : EnvOK (E k).toEnv := ctsOK (Lc (schema_number.ok k) (Lc (schema_col.ok k) L0))
theorem ok (k : Nat) : CtOK prog 156 (ct (f k)) := fn_ok func156 rfl (by decide) (hE k) L0 (Lc ev L0)
end schema_CheckCol
namespace change_add_targets
abbrev R : Type := Int ⊕ (Int × ByteArray × Int × (List D_api_Col))
def e (r : R) : Res := Sum.elim (fun r =>  ⟨.tup [(.one (.raw (.slice none 0 0))), (.one (.d (.int .i64) r))], []⟩) (fun r =>  ⟨.tup [(.one (.slb 0 1)), (.one (.d (.int .i64) r.1))], [some (.box [(.d .str r.2.1), (.d (.int .i64) r.2.2.1), (.d (.sl T_api_Col) r.2.2.2)])]⟩) r
abbrev T (δ : Type) : Type := D_api_Change → (List D_api_Table) → Option δ
abbrev A {δ : Type} (g : T δ) : Arm δ := ⟨[.s T_api_Change, .d (.sl T_api_Table)], [], fun x y => g x.1.1 x.2.1⟩
abbrev G : Type := T R
def ek {β : Type} (r : R) (K : Res → Option β) : Option β := Sum.elim (fun r => K ⟨.tup [(.one (.raw (.slice none 0 0))), (.one (.d (.int .i64) r))], []⟩) (fun r => K ⟨.tup [(.one (.slb 0 1)), (.one (.d (.int .i64) r.1))], [some (.box [(.d .str r.2.1), (.d (.int .i64) r.2.2.1), (.d (.sl T_api_Col) r.2.2.2)])]⟩) r
theorem hk {β : Type} (r : R) (K : Res → Option β) : ek r K = K (e r) := by rcases r with _ | _ <;> rfl
def ct (g : G) : Ct := mkCtS 0 [] [A g] e ek hk
abbrev S0 (δ : Type) : Type := Int → Bool → D_api_Change → ByteArray → Int → (List D_api_Col) → Option δ
abbrev A_0 {δ : Type} (s : S0 δ) : Arm δ := ⟨[.k (.ptr 0 0), .k (.ptr 1 0), .d (.int .i64), .d .bool], [.box [.g T_api_Change], .box [.g T_api_Table]], fun x y => s x.2.2.1 x.2.2.2.1 y.1.1 y.2.1.1.1 y.2.1.1.2.1 y.2.1.1.2.2.1⟩
abbrev S1 (δ : Type) : Type := Int → D_api_Change → ByteArray → Int → (List D_api_Col) → Option δ
abbrev A_1 {δ : Type} (s : S1 δ) : Arm δ := ⟨[.k (.ptr 0 0), .k (.ptr 1 0), .d (.int .i64)], [.box [.g T_api_Change], .box [.g T_api_Table]], fun x y => s x.2.2.1 y.1.1 y.2.1.1.1 y.2.1.1.2.1 y.2.1.1.2.2.1⟩
def sg0 (s : S0 R) : Seg := mkSg [1, 3, 1, 3, 1, 3, 1, 4, 0, 1, 1, 1] [] [2, 6, 7, 29] [A_0 s] e
def sg1 (s : S1 R) : Seg := mkSg [1, 1, 1, 1] [] [2, 6, 7] [A_1 s] e
section
variable {β : Type} (g28 : schema_Find.G) (g42 : List D_api_Col → Option (List D_api_Col)) (g153 : change_one.G) (g156 : schema_CheckCol.G) (s0 : S0 R) (s1 : S1 R)
noncomputable abbrev env : FEnv := mkEnv prog f155 [(28, schema_Find.ct g28), (42, api_Col_42.ct g42), (153, change_one.ct g153), (156, schema_CheckCol.ct g156)] 0 [0] [sg0 s0, sg1 s1]
def c (ret : R → Option β) (a0 : D_api_Change) (a1 : List D_api_Table) : Option β := (bif (true && (decide ((0 : Int) < (a1.length : Int)))) then ((g156 a0.2.2.2.2.2.2.2.2.1.1 a0.2.2.2.2.2.2.2.2.1.2.1 a0.2.2.2.2.2.2.2.2.1.2.2.1 a0.2.2.2.2.2.2.2.2.1.2.2.2.1.1 a0.2.2.2.2.2.2.2.2.1.2.2.2.1.2.1 a0.2.2.2.2.2.2.2.2.1.2.2.2.1.2.2.1 a0.2.2.2.2.2.2.2.2.1.2.2.2.1.2.2.2.1).bind fun r0 => (bif (r0 != (0 : Int)) then ((s1 r0 a0 (elem T_api_Table a1 (0 : Int)).1 (elem T_api_Table a1 (0 : Int)).2.1 (elem T_api_Table a1 (0 : Int)).2.2.1).bind ret) else ((g28 (elem T_api_Table a1 (0 : Int)).1 (elem T_api_Table a1 (0 : Int)).2.1 (elem T_api_Table a1 (0 : Int)).2.2.1 a0.2.2.2.2.2.2.2.2.1.1).bind fun r1 => (bif (decide (r1 ≥ (0 : Int))) then ((s1 (12 : Int) a0 (elem T_api_Table a1 (0 : Int)).1 (elem T_api_Table a1 (0 : Int)).2.1 (elem T_api_Table a1 (0 : Int)).2.2.1).bind ret) else (bif (decide (((List.length (elem T_api_Table a1 (0 : Int)).2.2.1) : Int) ≥ (8 : Int))) then ((s1 (2 : Int) a0 (elem T_api_Table a1 (0 : Int)).1 (elem T_api_Table a1 (0 : Int)).2.1 (elem T_api_Table a1 (0 : Int)).2.2.1).bind ret) else (bif (!a0.2.2.2.2.2.2.2.2.1.2.2.1) then ((s0 r0 (a0.2.2.2.2.2.2.2.2.1.2.2.2.1.1 == (0 : Int)) a0 (elem T_api_Table a1 (0 : Int)).1 (elem T_api_Table a1 (0 : Int)).2.1 (elem T_api_Table a1 (0 : Int)).2.2.1).bind ret) else ((s0 r0 false a0 (elem T_api_Table a1 (0 : Int)).1 (elem T_api_Table a1 (0 : Int)).2.1 (elem T_api_Table a1 (0 : Int)).2.2.1).bind ret))))))) else none)
def s0c (ret : R → Option β) (x0 : Int) (x1 : Bool) (x2 : D_api_Change) (x3 : ByteArray) (x4 : Int) (x5 : List D_api_Col) : Option β := (bif x1 then ((s1 (11 : Int) x2 x3 x4 x5).bind ret) else ((s1 x0 x2 x3 x4 x5).bind ret))
def s1c (ret : R → Option β) (x0 : Int) (x1 : D_api_Change) (x2 : ByteArray) (x3 : Int) (x4 : List D_api_Col) : Option β := ((g42 x4).bind fun r0 => (bif (decide (((r0.length + (1 : Nat)) * (72 : Nat)) ≤ (35184372088832 : Nat))) then ((g153 x2 x3 (r0 ++ [x1.2.2.2.2.2.2.2.2.1]) x0).bind fun r1 => (Sum.elim (fun r2 => (ret (.inl (r2)))) (fun r3 => (ret (.inr (r3.1, r3.2.1, r3.2.2.1, r3.2.2.2)))) r1)) else none))
variable {g28} {g42} {g153} {g156} {s0} {s1}
theorem ev : EvA (env g28 g42 g153 g156 s0 s1) [] [0, 1] e (A (c g28 g156 s0 s1 some)) := fun x y => Eq.trans (b := (A (c g28 g156 s0 s1 fun r => some (e r))).G x y) (by kernel_rfl) (by simp only [A, c, bo, so, oa, os, on, ofs])
theorem s0_ev : EvA (env g28 g42 g153 g156 s0 s1) [1, 3, 1, 3, 1, 3, 1, 4, 0, 1, 1, 1] [2, 6, 7, 29] e (A_0 (s0c s1 some)) := fun x y => Eq.trans (b := (A_0 (s0c s1 fun r => some (e r))).G x y) (by kernel_rfl) (by simp only [A_0, s0c, bo, so, oa, os, on, ofs])
theorem s1_ev : EvA (env g28 g42 g153 g156 s0 s1) [1, 1, 1, 1] [2, 6, 7] e (A_1 (s1c g42 g153 some)) := fun x y => Eq.trans (b := (A_1 (s1c g42 g153 fun r => some (e r))).G x y) (by kernel_rfl) (by simp only [A_1, s1c, bo, so, oa, os, on, ofs])
end
mutual
def s0 : Nat → S0 R
 | 0, _, _, _, _, _, _ => none
 | k + 1, x0, x1, x2, x3, x4, x5 => s0c (s1 k) some x0 x1 x2 x3 x4 x5
def s1 : Nat → S1 R
 | 0, _, _, _, _, _ => none
 | k + 1, x0, x1, x2, x3, x4 => s1c (api_Col_42.f k) (change_one.f k) some x0 x1 x2 x3 x4
end
def f (k : Nat) (a0 : D_api_Change) (a1 : List D_api_Table) : Option R := c (schema_Find.f k) (schema_CheckCol.f k) (s0 k) (s1 k) some a0 a1
noncomputable abbrev E (k : Nat) : FEnv := env (schema_Find.f k) (api_Col_42.f k) (change_one.f k) (schema_CheckCol.f k) (s0 k) (s1 k)
theorem hE (k : Nat) : EnvOK (E k).toEnv := ctsOK (Lc (schema_Find.ok k) (Lc (api_Col_42.ok k) (Lc (change_one.ok k) (Lc (schema_CheckCol.ok k) L0))))
theorem sk : ∀ k, ∀ s ∈ [sg0 (s0 k), sg1 (s1 k)], SegB prog f155 0 s
 | 0 => (Lc (sn (Lc (fun _ _ => rfl) L0)) (Lc (sn (Lc (fun _ _ => rfl) L0)) L0))
 | k + 1 => (Lc (sg_ok (hE k) (sk k) (Lc s0_ev L0)) (Lc (sg_ok (hE k) (sk k) (Lc s1_ev L0)) L0))
theorem ok (k : Nat) : CtOK prog 155 (ct (f k)) := fn_okS hk (fn_ok func155 rfl (by decide) (hE k) (sk k) (Lc ev L0))
end change_add_targets
/-! ### api_Col_159: function 159 (by hand) -/
def api_Col_159.ct : Ct := delCt T_api_Col
section
open Go.RowKit
theorem api_Col_159.zero4 : ∃ z, (∀ w, (zeroValue 30).run Go.Proofs.Tryz.prog w = .ok z w) ∧ z.cells.size = 7 ∧ ∀ v ∈ z.cells.toList, v.oneCell' = true := by
 refine ⟨.agg #[.string (ByteArray.mk #[]), .int .i64 0, .bool false, .int .i64 0, .int .i64 0, .int .u64 0, .string (ByteArray.mk #[])], fun w => by kernel_rfl, rfl, ?_⟩
 intro v hv
 simp [Value.cells] at hv
 rcases hv with rfl | rfl | rfl | rfl | rfl | rfl | rfl <;> rfl
theorem api_Col_159.clear (w : World) (b n c o : Nat) (hn : 0 < n) {vs : Array Value} {el : TypeId} (hb : w.heap[b]? = some (.cells vs el (0, 0))) (hfit : o + n * 7 ≤ vs.size) (ty : TypeId) :
  ∃ arr, (Builtin.clear_ #[22] ty #[.slice (some ⟨b, o, none⟩) n c]).run Go.Proofs.Tryz.prog w = .ok (.tuple #[]) (w.setRow b arr) ∧ arr.size = vs.size ∧ arr.toList.take o = vs.toList.take o := by
 obtain ⟨z, hz, hz4, hz1⟩ := api_Col_159.zero4
 have hu : Go.Proofs.Tryz.prog.underlying 22 = some (.slice 30) := by kernel_rfl
 have hlen : (Builtin.zeroCells z.cells n).toList.length = n * 7 := by simp [Builtin.zeroCells, hz4]
 have hst := run_storeCells_at (P := Go.Proofs.Tryz.prog) b o el (Builtin.zeroCells z.cells n).toList 0 vs w hb (by rw [hlen]; omega) (by
  intro v hv
  simp only [Builtin.zeroCells] at hv
  simp at hv
  obtain ⟨k, hk, rfl⟩ := hv
  have hlt : k % z.cells.size < z.cells.size := Nat.mod_lt _ (by omega)
  rw [getElem!_pos z.cells _ hlt]
  exact hz1 _ (by simp))
 simp only [Nat.add_zero] at hst
 obtain ⟨m, rfl⟩ : ∃ m, n = m + 1 := ⟨n - 1, by omega⟩
 refine ⟨(vs.toList.take o ++ (Builtin.zeroCells z.cells (m + 1)).toList ++ vs.toList.drop (o + (Builtin.zeroCells z.cells (m + 1)).toList.length)).toArray, ?_, ?_, ?_⟩
 ·have hr : (Builtin.clear_ #[22] ty #[.slice (some ⟨b, o, none⟩) (m + 1) c]).run Go.Proofs.Tryz.prog w = ((storeCells ⟨b, o, none⟩ (Builtin.zeroCells z.cells (m + 1)).toList).run Go.Proofs.Tryz.prog w).andThen fun _ w' => .ok (.tuple #[]) w' := by
   simp [Builtin.clear_, run_underlying hu, hz, Result.andThen]
  rw [hr, hst]
  rfl
 ·simp only [List.size_toArray, List.length_append, List.length_take, List.length_drop, hlen]
  simp; omega
 ·simp only [List.toList_toArray]
  rw [List.append_assoc, List.take_append_of_le_length (by simp; omega), List.take_take, Nat.min_self]
theorem api_Col_159.src (b o m c : Nat) (w : World) {vs : Array Value} {el : TypeId} (hb : w.heap[b]? = some (.cells vs el (0, 0))) (hfit : o + m * 7 ≤ vs.size) (hone : ∀ u ∈ (vs.toList.drop o).take (m * 7), u.oneCell' = true) (base : Option Addr)
  (hbase : base = some ⟨b, o, none⟩ ∨ m = 0) :
  Src Go.Proofs.Tryz.prog 7 22 (.slice base m c) m ((vs.toList.drop o).take (m * 7)) w := by
 have hu : Go.Proofs.Tryz.prog.underlying 22 = some (.slice 30) := by kernel_rfl
 have hlen : ((vs.toList.drop o).take (m * 7)).length = m * 7 := by simp; omega
 have hc : ∀ w' : World, w'.heap = w.heap → (Builtin.firstCells 7 m (.slice base m c)).run Go.Proofs.Tryz.prog w' = .ok ((vs.toList.drop o).take (m * 7)).toArray w' := by
  intro w' hw
  rcases hbase with rfl | rfl
  ·have := run_loadCells_list (P := Go.Proofs.Tryz.prog) w' ⟨b, o, none⟩ ((vs.toList.drop o).take (m * 7)) (fun j u hj => by
    have hj' : j < m * 7 := by have := (List.getElem?_eq_some_iff.1 hj).1; rw [hlen] at this; exact this
    rw [List.getElem?_take, if_pos hj', List.getElem?_drop] at hj
    rw [addr_add]
    simp only [World.cell?, hw, hb]
    simpa using hj)
   rw [hlen] at this
   simpa [Builtin.firstCells] using this
  ·simp [Builtin.firstCells]
   cases base <;> first | rfl | simp [loadCells, loadCellsFrom]
 exact ⟨.inl ⟨30, hu⟩, fun _ => by simp [Builtin.lenOf], hc w rfl, hc w.drew rfl, hlen, hone⟩
theorem api_Col_159.calls (b len cap i j : Nat) (w : World) {vs : Array Value} {el : TypeId} (hb : w.heap[b]? = some (.cells vs el (0, 0))) (hsz : vs.size = cap * 7) (hij : i ≤ j) (hj : j ≤ len) (hlen : len ≤ cap)
  (hone : ∀ u ∈ vs.toList.take (len * 7), u.oneCell' = true) :
  Calls Go.Proofs.Tryz.prog 159 #[.slice (some ⟨b, 0, none⟩) len cap, .int .i64 i, .int .i64 j] w fun e w' => e = .returned (.slice (some ⟨b, 0, none⟩) (len - (j - i)) cap) ∧
   w'.os = w.os ∧ w'.tape = w.tape ∧ w'.output = w.output ∧ w'.heap.size = w.heap.size ∧ (∀ k, k ≠ b → w'.heap[k]? = w.heap[k]?) ∧
   ∃ arr, w'.heap[b]? = some (.cells arr el (0, 0)) ∧ arr.size = vs.size ∧ arr.toList.take ((len - (j - i)) * 7) = vs.toList.take (i * 7) ++ (vs.toList.drop (j * 7)).take ((len - j) * 7) := by
 have t33 : Go.Proofs.Tryz.prog.underlying 22 = some (.slice 30) := by kernel_rfl
 obtain ⟨i0, hi0, hz1⟩ : ∃ i0, Go.Proofs.Tryz.prog.info? 30 = some i0 ∧ i0.size = 7 := ⟨_, rfl, by kernel_rfl⟩
 by_cases heq : i = j
 ·subst heq
  have h0 : Calls Go.Proofs.Tryz.prog 159 #[.slice (some ⟨b, 0, none⟩) len cap, .int .i64 i, .int .i64 i] w fun e w' => e = .returned (.slice (some ⟨b, 0, none⟩) len cap) ∧ w' = w := by
   clear hb
   go_enter Go.Proofs.Tryz.func159, Go.Proofs.Tryz.ntmps159
   go_wp2
   all_goals (go_ret; exact ⟨rfl, rfl⟩)
  refine h0.mono ?_
  rintro e w' ⟨rfl, rfl⟩
  refine ⟨by rw [Nat.sub_self, Nat.sub_zero], rfl, rfl, rfl, rfl, fun _ _ => rfl, vs, hb, rfl, ?_⟩
  rw [Nat.sub_self, Nat.sub_zero, Nat.sub_mul]
  have e : len * 7 = i * 7 + (len * 7 - i * 7) := by omega
  conv => lhs; rw [e, List.take_add]
 ·have hlt : i < j := by omega
  obtain ⟨news, hnews⟩ : ∃ news, news = (vs.toList.drop (j * 7)).take ((len - j) * 7) := ⟨_, rfl⟩
  have hnl : news.length = (len - j) * 7 := by rw [hnews]; simp; omega
  obtain ⟨A, hA, hbase⟩ : ∃ A : Option Addr, (if cap = j then some (⟨b, 0, none⟩ : Addr) else some ⟨b, j * 7, none⟩) = A ∧ (A = some ⟨b, j * 7, none⟩ ∨ len - j = 0) := by
   by_cases h : cap = j
   ·exact ⟨_, rfl, .inr (by omega)⟩
   ·exact ⟨_, rfl, .inl (by simp [h])⟩
  have hone' : ∀ u ∈ (vs.toList.drop (j * 7)).take ((len - j) * 7), u.oneCell' = true := by
   intro u hu
   refine hone u ?_
   have e : len * 7 = j * 7 + (len - j) * 7 := by omega
   rw [e, List.take_add]
   exact List.mem_append_right _ hu
  have hsrc : Src Go.Proofs.Tryz.prog i0.size 22 (.slice A (len - j) (cap - j)) (len - j) news w.drew := by
   rw [hz1, hnews]
   exact api_Col_159.src b (j * 7) (len - j) (cap - j) w.drew hb (by omega) hone' A hbase
  obtain ⟨W1, hW1⟩ : ∃ W1, W1 = w.drew.setRow b (vs.toList.take (i * i0.size) ++ news ++ vs.toList.drop (i * i0.size + news.length)).toArray := ⟨_, rfl⟩
  have hb1 : W1.heap[b]? = some (.cells (vs.toList.take (i * i0.size) ++ news ++ vs.toList.drop (i * i0.size + news.length)).toArray el (0, 0)) := by
   rw [hW1]; exact setRow_heap _ _ _ _ _ _ hb
  obtain ⟨arr, hcl, has, hat⟩ := api_Col_159.clear W1 b (len - (i + (len - j))) (cap - (i + (len - j))) ((i + (len - j)) * 7) (by omega) hb1 (by simp [hnl, hz1]; omega) 0
  have hcl : ∀ ty, (Builtin.clear_ #[22] ty #[.slice (some ⟨b, (i + (len - j)) * 7, none⟩) (len - (i + (len - j))) (cap - (i + (len - j)))]).run Go.Proofs.Tryz.prog W1 = .ok (.tuple #[]) (W1.setRow b arr) := fun ty => hcl
  have hic : i ≤ cap := by omega
  have hjc : j ≤ cap := by omega
  have hroom : i + (len - j) ≤ cap := by omega
  have hfit : cap * i0.size ≤ vs.size := by rw [hz1, hsz]; exact Nat.le_refl _
  have hW : Hid (W1 = w.drew.setRow b (vs.toList.take (i * i0.size) ++ news ++ vs.toList.drop (i * i0.size + news.length)).toArray) := hW1
  have X : Hid (news = (vs.toList.drop (j * 7)).take ((len - j) * 7)) := hnews
  have X1 : Hid (W1.heap[b]? = some (.cells (vs.toList.take (i * i0.size) ++ news ++ vs.toList.drop (i * i0.size + news.length)).toArray el (0, 0))) := hb1
  have X2 : Hid (w.heap[b]? = some (.cells vs el (0, 0))) := hb
  have X3 : Hid (news.length = (len - j) * 7) := hnl
  have X4 : Hid (i0.size = 7) := hz1
  have X5 : Hid (arr.size = (vs.toList.take (i * i0.size) ++ news ++ vs.toList.drop (i * i0.size + news.length)).toArray.size) := has
  have X6 : Hid (arr.toList.take ((i + (len - j)) * 7) = (vs.toList.take (i * i0.size) ++ news ++ vs.toList.drop (i * i0.size + news.length)).toArray.toList.take ((i + (len - j)) * 7)) := hat
  clear hnews hb1 hW1 has hat hnl
  go_enter Go.Proofs.Tryz.func159, Go.Proofs.Tryz.ntmps159
  go_wp2_with fail
  go_region_law (refine step_append_row rfl (.tmp 22) (.tmp 25) 22 rfl 30 i0 t33 hi0 b i cap (len - j) (by simp [Act.eval, Act.put]) _ news (by simp [Act.eval, Act.put]) hsrc hroom hb hfit ?_; rw [← hW.out])
  go_wp2
  go_ret
  have hsetA := setRow_heap W1 b _ arr el (0, 0) X1.out
  refine ⟨by rw [show len - (j - i) = i + (len - j) by omega]; rfl, ?_, ?_, ?_, ?_, ?_, arr, hsetA, ?_, ?_⟩
  ·rw [hW.out]; rfl
  ·rw [hW.out]; rfl
  ·rw [hW.out]; rfl
  ·rw [size_setRow, hW.out, size_setRow]; rfl
  ·intro k hk
   rw [hW.out, setRow_other _ _ _ _ hk, setRow_other _ _ _ _ hk]; rfl
  ·rw [X5.out]; simp [X3.out, X4.out]; omega
  ·rw [show len - (j - i) = i + (len - j) by omega, X6.out, ← X.out, X4.out]
   rw [List.take_append_of_le_length (by simp [X3.out]; omega), List.take_of_length_le (by simp [X3.out]; omega)]
theorem api_Col_159.ok (k : Nat) : CtOK Go.Proofs.Tryz.prog 159 api_Col_159.ct := by
 refine del_ok (T := T_api_Col) (fun args w => ?_) (fun b len cap i j w _ _ h1 h2 h3 h4 h5 h6 => api_Col_159.calls b len cap i j w h1 h2 h3 h4 h5 h6)
 exact Go.Proofs.enters_of Go.Proofs.Tryz.func159 (by kernel_rfl) rfl _ _
end


namespace change_drop_targets
abbrev R : Type := Int ⊕ (Int × ByteArray × Int × (List D_api_Col))
def e (r : R) : Res := Sum.elim (fun r =>  ⟨.tup [(.one (.raw (.slice none 0 0))), (.one (.d (.int .i64) r))], []⟩) (fun r =>  ⟨.tup [(.one (.slb 0 1)), (.one (.d (.int .i64) r.1))], [some (.box [(.d .str r.2.1), (.d (.int .i64) r.2.2.1), (.d (.sl T_api_Col) r.2.2.2)])]⟩) r
abbrev T (δ : Type) : Type := D_api_Change → (List D_api_Table) → Option δ
abbrev A {δ : Type} (g : T δ) : Arm δ := ⟨[.s T_api_Change, .d (.sl T_api_Table)], [], fun x y => g x.1.1 x.2.1⟩
abbrev G : Type := T R
def ek {β : Type} (r : R) (K : Res → Option β) : Option β := Sum.elim (fun r => K ⟨.tup [(.one (.raw (.slice none 0 0))), (.one (.d (.int .i64) r))], []⟩) (fun r => K ⟨.tup [(.one (.slb 0 1)), (.one (.d (.int .i64) r.1))], [some (.box [(.d .str r.2.1), (.d (.int .i64) r.2.2.1), (.d (.sl T_api_Col) r.2.2.2)])]⟩) r
theorem hk {β : Type} (r : R) (K : Res → Option β) : ek r K = K (e r) := by rcases r with _ | _ <;> rfl
def ct (g : G) : Ct := mkCtS 0 [] [A g] e ek hk
section
variable {β : Type} (g28 : schema_Find.G) (g42 : List D_api_Col → Option (List D_api_Col)) (g153 : change_one.G)
noncomputable abbrev env : FEnv := mkEnv prog f158 [(28, schema_Find.ct g28), (42, api_Col_42.ct g42), (153, change_one.ct g153), (159, api_Col_159.ct )] 0 [0] []
def c (ret : R → Option β) (a0 : D_api_Change) (a1 : List D_api_Table) : Option β := (bif (true && (decide ((0 : Int) < (a1.length : Int)))) then ((g28 (elem T_api_Table a1 (0 : Int)).1 (elem T_api_Table a1 (0 : Int)).2.1 (elem T_api_Table a1 (0 : Int)).2.2.1 a0.2.2.2.2.2.1).bind fun r0 => (bif (decide (r0 < (elem T_api_Table a1 (0 : Int)).2.1)) then (ret (.inl ((10 : Int)))) else ((g42 (elem T_api_Table a1 (0 : Int)).2.2.1).bind fun r1 => (bif (((decide ((0 : Int) ≤ r0)) && (decide (r0 ≤ (IntKind.wrap .i64 (r0 + (1 : Int)))))) && (decide ((IntKind.wrap .i64 (r0 + (1 : Int))) ≤ (r1.length : Int)))) then ((g153 (elem T_api_Table a1 (0 : Int)).1 (elem T_api_Table a1 (0 : Int)).2.1 ((List.take (Int.toNat r0) r1) ++ (List.drop (Int.toNat (IntKind.wrap .i64 (r0 + (1 : Int)))) r1)) (0 : Int)).bind fun r2 => (Sum.elim (fun r3 => (ret (.inl (r3)))) (fun r4 => (ret (.inr (r4.1, r4.2.1, r4.2.2.1, r4.2.2.2)))) r2)) else none)))) else none)
variable {g28} {g42} {g153}
theorem ev : EvA (env g28 g42 g153) [] [0, 1] e (A (c g28 g42 g153 some)) := fun x y => Eq.trans (b := (A (c g28 g42 g153 fun r => some (e r))).G x y) (by kernel_rfl) (by simp only [A, c, bo, so, oa, os, on, ofs])
end
def f (k : Nat) (a0 : D_api_Change) (a1 : List D_api_Table) : Option R := c (schema_Find.f k) (api_Col_42.f k) (change_one.f k) some a0 a1
noncomputable abbrev E (k : Nat) : FEnv := env (schema_Find.f k) (api_Col_42.f k) (change_one.f k)  
theorem hE (k : Nat) : EnvOK (E k).toEnv := ctsOK (Lc (schema_Find.ok k) (Lc (api_Col_42.ok k) (Lc (change_one.ok k) (Lc (api_Col_159.ok k) L0))))
theorem ok (k : Nat) : CtOK prog 158 (ct (f k)) := fn_okS hk (fn_ok func158 rfl (by decide) (hE k) L0 (Lc ev L0))
end change_drop_targets
namespace change_retype_targets
abbrev R : Type := Int ⊕ (Int × ByteArray × Int × (List D_api_Col))
def e (r : R) : Res := Sum.elim (fun r =>  ⟨.tup [(.one (.raw (.slice none 0 0))), (.one (.d (.int .i64) r))], []⟩) (fun r =>  ⟨.tup [(.one (.slb 0 1)), (.one (.d (.int .i64) r.1))], [some (.box [(.d .str r.2.1), (.d (.int .i64) r.2.2.1), (.d (.sl T_api_Col) r.2.2.2)])]⟩) r
abbrev T (δ : Type) : Type := D_api_Change → (List D_api_Table) → Option δ
abbrev A {δ : Type} (g : T δ) : Arm δ := ⟨[.s T_api_Change, .d (.sl T_api_Table)], [], fun x y => g x.1.1 x.2.1⟩
abbrev G : Type := T R
def ek {β : Type} (r : R) (K : Res → Option β) : Option β := Sum.elim (fun r => K ⟨.tup [(.one (.raw (.slice none 0 0))), (.one (.d (.int .i64) r))], []⟩) (fun r => K ⟨.tup [(.one (.slb 0 1)), (.one (.d (.int .i64) r.1))], [some (.box [(.d .str r.2.1), (.d (.int .i64) r.2.2.1), (.d (.sl T_api_Col) r.2.2.2)])]⟩) r
theorem hk {β : Type} (r : R) (K : Res → Option β) : ek r K = K (e r) := by rcases r with _ | _ <;> rfl
def ct (g : G) : Ct := mkCtS 0 [] [A g] e ek hk
section
variable {β : Type} (g28 : schema_Find.G) (g30 : convert_To.G) (g42 : List D_api_Col → Option (List D_api_Col)) (g54 : convert_Can.G) (g153 : change_one.G)
noncomputable abbrev env : FEnv := mkEnv prog f161 [(28, schema_Find.ct g28), (30, convert_To.ct g30), (42, api_Col_42.ct g42), (54, convert_Can.ct g54), (153, change_one.ct g153)] 0 [0] []
def c (ret : R → Option β) (a0 : D_api_Change) (a1 : List D_api_Table) : Option β := (bif (true && (decide ((0 : Int) < (a1.length : Int)))) then ((g28 (elem T_api_Table a1 (0 : Int)).1 (elem T_api_Table a1 (0 : Int)).2.1 (elem T_api_Table a1 (0 : Int)).2.2.1 a0.2.2.2.2.2.1).bind fun r0 => (bif (decide (r0 < (elem T_api_Table a1 (0 : Int)).2.1)) then (ret (.inl ((10 : Int)))) else (bif ((decide ((0 : Int) ≤ r0)) && (decide (r0 < ((List.length (elem T_api_Table a1 (0 : Int)).2.2.1) : Int)))) then ((g54 (elem T_api_Col (elem T_api_Table a1 (0 : Int)).2.2.1 r0).2.1 a0.2.2.2.2.2.2.1).bind fun r1 => (bif (!r1) then (ret (.inl ((5 : Int)))) else ((g42 (elem T_api_Table a1 (0 : Int)).2.2.1).bind fun r2 => (bif ((decide ((0 : Int) ≤ r0)) && (decide (r0 < (r2.length : Int)))) then ((g30 (elem T_api_Col (List.set r2 (Int.toNat r0) ((elem T_api_Col r2 r0).1, (a0.2.2.2.2.2.2.1, (elem T_api_Col r2 r0).2.2))) r0).2.2.2.1.1 (elem T_api_Col (List.set r2 (Int.toNat r0) ((elem T_api_Col r2 r0).1, (a0.2.2.2.2.2.2.1, (elem T_api_Col r2 r0).2.2))) r0).2.2.2.1.2.1 (elem T_api_Col (List.set r2 (Int.toNat r0) ((elem T_api_Col r2 r0).1, (a0.2.2.2.2.2.2.1, (elem T_api_Col r2 r0).2.2))) r0).2.2.2.1.2.2.1 (elem T_api_Col (List.set r2 (Int.toNat r0) ((elem T_api_Col r2 r0).1, (a0.2.2.2.2.2.2.1, (elem T_api_Col r2 r0).2.2))) r0).2.2.2.1.2.2.2.1 a0.2.2.2.2.2.2.1).bind fun r3 => ((g153 (elem T_api_Table a1 (0 : Int)).1 (elem T_api_Table a1 (0 : Int)).2.1 (List.set (List.set r2 (Int.toNat r0) ((elem T_api_Col r2 r0).1, (a0.2.2.2.2.2.2.1, (elem T_api_Col r2 r0).2.2))) (Int.toNat r0) ((elem T_api_Col (List.set r2 (Int.toNat r0) ((elem T_api_Col r2 r0).1, (a0.2.2.2.2.2.2.1, (elem T_api_Col r2 r0).2.2))) r0).1, ((elem T_api_Col (List.set r2 (Int.toNat r0) ((elem T_api_Col r2 r0).1, (a0.2.2.2.2.2.2.1, (elem T_api_Col r2 r0).2.2))) r0).2.1, ((elem T_api_Col (List.set r2 (Int.toNat r0) ((elem T_api_Col r2 r0).1, (a0.2.2.2.2.2.2.1, (elem T_api_Col r2 r0).2.2))) r0).2.2.1, ((r3.1, (r3.2.1, (r3.2.2.1, (r3.2.2.2.1, ())))), ()))))) (0 : Int)).bind fun r4 => (Sum.elim (fun r5 => (ret (.inl (r5)))) (fun r6 => (ret (.inr (r6.1, r6.2.1, r6.2.2.1, r6.2.2.2)))) r4))) else none)))) else none))) else none)
variable {g28} {g30} {g42} {g54} {g153}
theorem ev : EvA (env g28 g30 g42 g54 g153) [] [0, 1] e (A (c g28 g30 g42 g54 g153 some)) := fun x y => Eq.trans (b := (A (c g28 g30 g42 g54 g153 fun r => some (e r))).G x y) (by kernel_rfl) (by simp only [A, c, bo, so, oa, os, on, ofs])
end
def f (k : Nat) (a0 : D_api_Change) (a1 : List D_api_Table) : Option R := c (schema_Find.f k) (convert_To.f k) (api_Col_42.f k) (convert_Can.f k) (change_one.f k) some a0 a1
noncomputable abbrev E (k : Nat) : FEnv := env (schema_Find.f k) (convert_To.f k) (api_Col_42.f k) (convert_Can.f k) (change_one.f k) 
theorem hE (k : Nat) : EnvOK (E k).toEnv := ctsOK (Lc (schema_Find.ok k) (Lc (convert_To.ok k) (Lc (api_Col_42.ok k) (Lc (convert_Can.ok k) (Lc (change_one.ok k) L0)))))
theorem ok (k : Nat) : CtOK prog 161 (ct (f k)) := fn_okS hk (fn_ok func161 rfl (by decide) (hE k) L0 (Lc ev L0))
end change_retype_targets
end Go.Proofs.YtijjlpgcpdapnaaGreatDoor.Aev
