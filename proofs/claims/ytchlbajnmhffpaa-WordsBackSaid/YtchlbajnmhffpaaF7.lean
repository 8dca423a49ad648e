/- By a program of this session (AEV): functions of the program as plain functions, and that the machine does what they say. -/
import Derived.Test.YtchlbajnmhffpaaAevW
import Derived.Test.YtchlbajnmhffpaaProg
import Derived.Laws.Externs
import Derived.Lib.Bytealg
namespace Go.Proofs.Ytchlbajnmhffpaa.Aev
set_option linter.unusedVariables false
set_option linter.unusedSimpArgs false
set_option maxRecDepth 100000
set_option maxHeartbeats 4000000
open Go
/-! ### transomref36_Split: function 9 -/
def ct_transomref36_Split (g : ByteArray → Option ((List ByteArray) × Int)) : Ct where
  nin := 0
  mv := []
  F := fun tvs blks {β} K => match tvs, blks with
    | [.v (.one (.d .str a0))], [] => (g a0).bind fun r => K ⟨.tup [(.one (.d (.sl .str) r.1)), (.one (.d (.int .i64) r.2))], []⟩
    | _, _ => none
  legit := fun tvs blks K r h => by
    split at h
    · obtain ⟨x, hx, hk⟩ := Option.bind_eq_some_iff.1 h
      refine ⟨_, ?_, hk⟩
      simp only [hx, Option.bind_some]
    · simp at h
def seg_transomref36_Split_0 (g : ByteArray → Int → Option ((List ByteArray) × Int)) : Seg where
  path := [4, 1, 0, 1]
  prep := []
  keep := [0, 4]
  F := fun tvs blks {β} K => match tvs, blks with
    | [.v (.one (.d .str x0)), .v (.one (.d (.int .i64) x1))], [] => (g x0 x1).bind fun r => K ⟨.tup [(.one (.d (.sl .str) r.1)), (.one (.d (.int .i64) r.2))], []⟩
    | _, _ => none
  legit := fun tvs blks K r h => by
    split at h
    · obtain ⟨x, hx, hk⟩ := Option.bind_eq_some_iff.1 h
      refine ⟨_, ?_, hk⟩
      simp only [hx, Option.bind_some]
    · simp at h
def seg_transomref36_Split_1 (g : ByteArray → Int → Bool → Option ((List ByteArray) × Int)) : Seg where
  path := [1, 4, 0, 1, 5, 4, 1, 0, 1]
  prep := []
  keep := [0, 4, 26]
  F := fun tvs blks {β} K => match tvs, blks with
    | [.v (.one (.d .str x0)), .v (.one (.d (.int .i64) x1)), .v (.one (.d .bool x2))], [] => (g x0 x1 x2).bind fun r => K ⟨.tup [(.one (.d (.sl .str) r.1)), (.one (.d (.int .i64) r.2))], []⟩
    | _, _ => none
  legit := fun tvs blks K r h => by
    split at h
    · obtain ⟨x, hx, hk⟩ := Option.bind_eq_some_iff.1 h
      refine ⟨_, ?_, hk⟩
      simp only [hx, Option.bind_some]
    · simp at h
def seg_transomref36_Split_2 (g : ByteArray → Int → Option ((List ByteArray) × Int)) : Seg where
  path := [1, 1, 5, 4, 1, 0, 1]
  prep := []
  keep := [0, 4]
  F := fun tvs blks {β} K => match tvs, blks with
    | [.v (.one (.d .str x0)), .v (.one (.d (.int .i64) x1))], [] => (g x0 x1).bind fun r => K ⟨.tup [(.one (.d (.sl .str) r.1)), (.one (.d (.int .i64) r.2))], []⟩
    | _, _ => none
  legit := fun tvs blks K r h => by
    split at h
    · obtain ⟨x, hx, hk⟩ := Option.bind_eq_some_iff.1 h
      refine ⟨_, ?_, hk⟩
      simp only [hx, Option.bind_some]
    · simp at h
def seg_transomref36_Split_3 (g : ByteArray → ByteArray → Bool → Bool → Int → (List ByteArray) → Option ((List ByteArray) × Int)) : Seg where
  path := [4, 1, 0, 1, 1, 1, 1, 1, 1]
  prep := [.own 5 .str]
  keep := [0, 5, 6, 7, 8, 9]
  F := fun tvs blks {β} K => match tvs, blks with
    | [.v (.one (.d .str x0)), .v (.one (.own 0)), .v (.one (.d .str x1)), .v (.one (.d .bool x2)), .v (.one (.d .bool x3)), .v (.one (.d (.int .i64) x4))], [some (.own .str false x5)] => (g x0 x1 x2 x3 x4 x5).bind fun r => K ⟨.tup [(.one (.d (.sl .str) r.1)), (.one (.d (.int .i64) r.2))], []⟩
    | _, _ => none
  legit := fun tvs blks K r h => by
    split at h
    · obtain ⟨x, hx, hk⟩ := Option.bind_eq_some_iff.1 h
      refine ⟨_, ?_, hk⟩
      simp only [hx, Option.bind_some]
    · simp at h
def seg_transomref36_Split_4 (g : ByteArray → ByteArray → Bool → Bool → Int → Int → Bool → (List ByteArray) → Option ((List ByteArray) × Int)) : Seg where
  path := [1, 0, 1, 4, 0, 1, 5, 4, 1, 0, 1, 1, 1, 1, 1, 1]
  prep := []
  keep := [0, 5, 6, 7, 8, 9, 10, 41]
  F := fun tvs blks {β} K => match tvs, blks with
    | [.v (.one (.d .str x0)), .v (.one (.own 0)), .v (.one (.d .str x1)), .v (.one (.d .bool x2)), .v (.one (.d .bool x3)), .v (.one (.d (.int .i64) x4)), .v (.one (.d (.int .u8) x5)), .v (.one (.d .bool x6))], [some (.own .str false x7)] => (g x0 x1 x2 x3 x4 x5 x6 x7).bind fun r => K ⟨.tup [(.one (.d (.sl .str) r.1)), (.one (.d (.int .i64) r.2))], []⟩
    | _, _ => none
  legit := fun tvs blks K r h => by
    split at h
    · obtain ⟨x, hx, hk⟩ := Option.bind_eq_some_iff.1 h
      refine ⟨_, ?_, hk⟩
      simp only [hx, Option.bind_some]
    · simp at h
def seg_transomref36_Split_5 (g : ByteArray → Bool → Bool → Int → (List ByteArray) → Option ((List ByteArray) × Int)) : Seg where
  path := [1, 2, 1, 0, 1, 4, 0, 1, 5, 4, 1, 0, 1, 1, 1, 1, 1, 1]
  prep := [.own 5 .str]
  keep := [0, 5, 7, 8, 9]
  F := fun tvs blks {β} K => match tvs, blks with
    | [.v (.one (.d .str x0)), .v (.one (.own 0)), .v (.one (.d .bool x1)), .v (.one (.d .bool x2)), .v (.one (.d (.int .i64) x3))], [some (.own .str false x4)] => (g x0 x1 x2 x3 x4).bind fun r => K ⟨.tup [(.one (.d (.sl .str) r.1)), (.one (.d (.int .i64) r.2))], []⟩
    | _, _ => none
  legit := fun tvs blks K r h => by
    split at h
    · obtain ⟨x, hx, hk⟩ := Option.bind_eq_some_iff.1 h
      refine ⟨_, ?_, hk⟩
      simp only [hx, Option.bind_some]
    · simp at h
def seg_transomref36_Split_6 (g : ByteArray → ByteArray → Bool → Bool → Int → Int → (List ByteArray) → Option ((List ByteArray) × Int)) : Seg where
  path := [1, 1, 4, 0, 1, 5, 4, 1, 0, 1, 1, 1, 1, 1, 1]
  prep := []
  keep := [0, 5, 6, 7, 8, 9, 10]
  F := fun tvs blks {β} K => match tvs, blks with
    | [.v (.one (.d .str x0)), .v (.one (.own 0)), .v (.one (.d .str x1)), .v (.one (.d .bool x2)), .v (.one (.d .bool x3)), .v (.one (.d (.int .i64) x4)), .v (.one (.d (.int .u8) x5))], [some (.own .str false x6)] => (g x0 x1 x2 x3 x4 x5 x6).bind fun r => K ⟨.tup [(.one (.d (.sl .str) r.1)), (.one (.d (.int .i64) r.2))], []⟩
    | _, _ => none
  legit := fun tvs blks K r h => by
    split at h
    · obtain ⟨x, hx, hk⟩ := Option.bind_eq_some_iff.1 h
      refine ⟨_, ?_, hk⟩
      simp only [hx, Option.bind_some]
    · simp at h
def seg_transomref36_Split_7 (g : ByteArray → ByteArray → Bool → Bool → Int → (List ByteArray) → Option ((List ByteArray) × Int)) : Seg where
  path := [1, 1, 5, 4, 1, 0, 1, 1, 1, 1, 1, 1]
  prep := [.own 5 .str]
  keep := [0, 5, 6, 7, 8, 9]
  F := fun tvs blks {β} K => match tvs, blks with
    | [.v (.one (.d .str x0)), .v (.one (.own 0)), .v (.one (.d .str x1)), .v (.one (.d .bool x2)), .v (.one (.d .bool x3)), .v (.one (.d (.int .i64) x4))], [some (.own .str false x5)] => (g x0 x1 x2 x3 x4 x5).bind fun r => K ⟨.tup [(.one (.d (.sl .str) r.1)), (.one (.d (.int .i64) r.2))], []⟩
    | _, _ => none
  legit := fun tvs blks K r h => by
    split at h
    · obtain ⟨x, hx, hk⟩ := Option.bind_eq_some_iff.1 h
      refine ⟨_, ?_, hk⟩
      simp only [hx, Option.bind_some]
    · simp at h
noncomputable def env_transomref36_Split  (s0 : ByteArray → Int → Option ((List ByteArray) × Int)) (s1 : ByteArray → Int → Bool → Option ((List ByteArray) × Int)) (s2 : ByteArray → Int → Option ((List ByteArray) × Int)) (s3 : ByteArray → ByteArray → Bool → Bool → Int → (List ByteArray) → Option ((List ByteArray) × Int)) (s4 : ByteArray → ByteArray → Bool → Bool → Int → Int → Bool → (List ByteArray) → Option ((List ByteArray) × Int)) (s5 : ByteArray → Bool → Bool → Int → (List ByteArray) → Option ((List ByteArray) × Int)) (s6 : ByteArray → ByteArray → Bool → Bool → Int → Int → (List ByteArray) → Option ((List ByteArray) × Int)) (s7 : ByteArray → ByteArray → Bool → Bool → Int → (List ByteArray) → Option ((List ByteArray) × Int)) : FEnv := { P := Go.Proofs.Try.prog, ct := fun m => none, N := 74, body := Go.Proofs.Try.f9.body.getD .skip, rvs := [.tmp 2, .tmp 3], rts := [23, 3], nin := 0, rmv := [], segs := [seg_transomref36_Split_0 s0, seg_transomref36_Split_1 s1, seg_transomref36_Split_2 s2, seg_transomref36_Split_3 s3, seg_transomref36_Split_4 s4, seg_transomref36_Split_5 s5, seg_transomref36_Split_6 s6, seg_transomref36_Split_7 s7] }
def transomref36_Split.c {β : Type}  (s0 : ByteArray → Int → Option ((List ByteArray) × Int)) (s1 : ByteArray → Int → Bool → Option ((List ByteArray) × Int)) (s2 : ByteArray → Int → Option ((List ByteArray) × Int)) (s3 : ByteArray → ByteArray → Bool → Bool → Int → (List ByteArray) → Option ((List ByteArray) × Int)) (s4 : ByteArray → ByteArray → Bool → Bool → Int → Int → Bool → (List ByteArray) → Option ((List ByteArray) × Int)) (s5 : ByteArray → Bool → Bool → Int → (List ByteArray) → Option ((List ByteArray) × Int)) (s6 : ByteArray → ByteArray → Bool → Bool → Int → Int → (List ByteArray) → Option ((List ByteArray) × Int)) (s7 : ByteArray → ByteArray → Bool → Bool → Int → (List ByteArray) → Option ((List ByteArray) × Int)) (a0 : ByteArray) (ret : ((List ByteArray) × Int) → Option β) : Option β := ((s0 a0 (0 : Int)).bind ret)
def transomref36_Split.s0c {β : Type}  (s0 : ByteArray → Int → Option ((List ByteArray) × Int)) (s1 : ByteArray → Int → Bool → Option ((List ByteArray) × Int)) (s2 : ByteArray → Int → Option ((List ByteArray) × Int)) (s3 : ByteArray → ByteArray → Bool → Bool → Int → (List ByteArray) → Option ((List ByteArray) × Int)) (s4 : ByteArray → ByteArray → Bool → Bool → Int → Int → Bool → (List ByteArray) → Option ((List ByteArray) × Int)) (s5 : ByteArray → Bool → Bool → Int → (List ByteArray) → Option ((List ByteArray) × Int)) (s6 : ByteArray → ByteArray → Bool → Bool → Int → Int → (List ByteArray) → Option ((List ByteArray) × Int)) (s7 : ByteArray → ByteArray → Bool → Bool → Int → (List ByteArray) → Option ((List ByteArray) × Int)) (x0 : ByteArray) (x1 : Int) (ret : ((List ByteArray) × Int) → Option β) : Option β := (bif (decide (x1 < ((ByteArray.size x0) : Int))) then (bif ((decide ((0 : Int) ≤ x1)) && (decide (x1 < ((ByteArray.size x0) : Int)))) then (bif (decide ((bt x0 x1) < (32 : Int))) then ((s1 x0 x1 true).bind ret) else (bif ((decide ((0 : Int) ≤ x1)) && (decide (x1 < ((ByteArray.size x0) : Int)))) then ((s1 x0 x1 (decide ((bt x0 x1) > (126 : Int)))).bind ret) else none)) else none) else ((s3 x0 (ByteArray.mk (List.toArray [])) false false (0 : Int) []).bind ret))
def transomref36_Split.s1c {β : Type}  (s0 : ByteArray → Int → Option ((List ByteArray) × Int)) (s1 : ByteArray → Int → Bool → Option ((List ByteArray) × Int)) (s2 : ByteArray → Int → Option ((List ByteArray) × Int)) (s3 : ByteArray → ByteArray → Bool → Bool → Int → (List ByteArray) → Option ((List ByteArray) × Int)) (s4 : ByteArray → ByteArray → Bool → Bool → Int → Int → Bool → (List ByteArray) → Option ((List ByteArray) × Int)) (s5 : ByteArray → Bool → Bool → Int → (List ByteArray) → Option ((List ByteArray) × Int)) (s6 : ByteArray → ByteArray → Bool → Bool → Int → Int → (List ByteArray) → Option ((List ByteArray) × Int)) (s7 : ByteArray → ByteArray → Bool → Bool → Int → (List ByteArray) → Option ((List ByteArray) × Int)) (x0 : ByteArray) (x1 : Int) (x2 : Bool) (ret : ((List ByteArray) × Int) → Option β) : Option β := (bif x2 then (ret ([], (7 : Int))) else ((s2 x0 x1).bind ret))
def transomref36_Split.s2c {β : Type}  (s0 : ByteArray → Int → Option ((List ByteArray) × Int)) (s1 : ByteArray → Int → Bool → Option ((List ByteArray) × Int)) (s2 : ByteArray → Int → Option ((List ByteArray) × Int)) (s3 : ByteArray → ByteArray → Bool → Bool → Int → (List ByteArray) → Option ((List ByteArray) × Int)) (s4 : ByteArray → ByteArray → Bool → Bool → Int → Int → Bool → (List ByteArray) → Option ((List ByteArray) × Int)) (s5 : ByteArray → Bool → Bool → Int → (List ByteArray) → Option ((List ByteArray) × Int)) (s6 : ByteArray → ByteArray → Bool → Bool → Int → Int → (List ByteArray) → Option ((List ByteArray) × Int)) (s7 : ByteArray → ByteArray → Bool → Bool → Int → (List ByteArray) → Option ((List ByteArray) × Int)) (x0 : ByteArray) (x1 : Int) (ret : ((List ByteArray) × Int) → Option β) : Option β := ((s0 x0 (IntKind.wrap IntKind.i64 (x1 + (1 : Int)))).bind ret)
def transomref36_Split.s3c {β : Type}  (s0 : ByteArray → Int → Option ((List ByteArray) × Int)) (s1 : ByteArray → Int → Bool → Option ((List ByteArray) × Int)) (s2 : ByteArray → Int → Option ((List ByteArray) × Int)) (s3 : ByteArray → ByteArray → Bool → Bool → Int → (List ByteArray) → Option ((List ByteArray) × Int)) (s4 : ByteArray → ByteArray → Bool → Bool → Int → Int → Bool → (List ByteArray) → Option ((List ByteArray) × Int)) (s5 : ByteArray → Bool → Bool → Int → (List ByteArray) → Option ((List ByteArray) × Int)) (s6 : ByteArray → ByteArray → Bool → Bool → Int → Int → (List ByteArray) → Option ((List ByteArray) × Int)) (s7 : ByteArray → ByteArray → Bool → Bool → Int → (List ByteArray) → Option ((List ByteArray) × Int)) (x0 : ByteArray) (x1 : ByteArray) (x2 : Bool) (x3 : Bool) (x4 : Int) (x5 : List ByteArray) (ret : ((List ByteArray) × Int) → Option β) : Option β := (bif (decide (x4 < ((ByteArray.size x0) : Int))) then (bif ((decide ((0 : Int) ≤ x4)) && (decide (x4 < ((ByteArray.size x0) : Int)))) then (bif ((bt x0 x4) == (32 : Int)) then ((s4 x0 x1 x2 x3 x4 (bt x0 x4) (!x2) x5).bind ret) else ((s4 x0 x1 x2 x3 x4 (bt x0 x4) false x5).bind ret)) else none) else (bif x2 then (ret ([], (7 : Int))) else (bif (!((ByteArray.toList x1) == (ByteArray.toList (ByteArray.mk (List.toArray []))))) then (bif (decide ((((List.length x5) + (1 : Nat)) * (16 : Nat)) ≤ (35184372088832 : Nat))) then (ret ((x5 ++ [x1]), (0 : Int))) else none) else (ret (x5, (0 : Int))))))
def transomref36_Split.s4c {β : Type}  (s0 : ByteArray → Int → Option ((List ByteArray) × Int)) (s1 : ByteArray → Int → Bool → Option ((List ByteArray) × Int)) (s2 : ByteArray → Int → Option ((List ByteArray) × Int)) (s3 : ByteArray → ByteArray → Bool → Bool → Int → (List ByteArray) → Option ((List ByteArray) × Int)) (s4 : ByteArray → ByteArray → Bool → Bool → Int → Int → Bool → (List ByteArray) → Option ((List ByteArray) × Int)) (s5 : ByteArray → Bool → Bool → Int → (List ByteArray) → Option ((List ByteArray) × Int)) (s6 : ByteArray → ByteArray → Bool → Bool → Int → Int → (List ByteArray) → Option ((List ByteArray) × Int)) (s7 : ByteArray → ByteArray → Bool → Bool → Int → (List ByteArray) → Option ((List ByteArray) × Int)) (x0 : ByteArray) (x1 : ByteArray) (x2 : Bool) (x3 : Bool) (x4 : Int) (x5 : Int) (x6 : Bool) (x7 : List ByteArray) (ret : ((List ByteArray) × Int) → Option β) : Option β := (bif x6 then (bif (!((ByteArray.toList x1) == (ByteArray.toList (ByteArray.mk (List.toArray []))))) then (bif (decide ((((List.length x7) + (1 : Nat)) * (16 : Nat)) ≤ (35184372088832 : Nat))) then ((s5 x0 x2 x3 x4 (x7 ++ [x1])).bind ret) else none) else ((s5 x0 x2 x3 x4 x7).bind ret)) else ((s6 x0 x1 x2 x3 x4 x5 x7).bind ret))
def transomref36_Split.s5c {β : Type}  (s0 : ByteArray → Int → Option ((List ByteArray) × Int)) (s1 : ByteArray → Int → Bool → Option ((List ByteArray) × Int)) (s2 : ByteArray → Int → Option ((List ByteArray) × Int)) (s3 : ByteArray → ByteArray → Bool → Bool → Int → (List ByteArray) → Option ((List ByteArray) × Int)) (s4 : ByteArray → ByteArray → Bool → Bool → Int → Int → Bool → (List ByteArray) → Option ((List ByteArray) × Int)) (s5 : ByteArray → Bool → Bool → Int → (List ByteArray) → Option ((List ByteArray) × Int)) (s6 : ByteArray → ByteArray → Bool → Bool → Int → Int → (List ByteArray) → Option ((List ByteArray) × Int)) (s7 : ByteArray → ByteArray → Bool → Bool → Int → (List ByteArray) → Option ((List ByteArray) × Int)) (x0 : ByteArray) (x1 : Bool) (x2 : Bool) (x3 : Int) (x4 : List ByteArray) (ret : ((List ByteArray) × Int) → Option β) : Option β := ((s7 x0 (ByteArray.mk (List.toArray [])) x1 x2 x3 x4).bind ret)
def transomref36_Split.s6c {β : Type}  (s0 : ByteArray → Int → Option ((List ByteArray) × Int)) (s1 : ByteArray → Int → Bool → Option ((List ByteArray) × Int)) (s2 : ByteArray → Int → Option ((List ByteArray) × Int)) (s3 : ByteArray → ByteArray → Bool → Bool → Int → (List ByteArray) → Option ((List ByteArray) × Int)) (s4 : ByteArray → ByteArray → Bool → Bool → Int → Int → Bool → (List ByteArray) → Option ((List ByteArray) × Int)) (s5 : ByteArray → Bool → Bool → Int → (List ByteArray) → Option ((List ByteArray) × Int)) (s6 : ByteArray → ByteArray → Bool → Bool → Int → Int → (List ByteArray) → Option ((List ByteArray) × Int)) (s7 : ByteArray → ByteArray → Bool → Bool → Int → (List ByteArray) → Option ((List ByteArray) × Int)) (x0 : ByteArray) (x1 : ByteArray) (x2 : Bool) (x3 : Bool) (x4 : Int) (x5 : Int) (x6 : List ByteArray) (ret : ((List ByteArray) × Int) → Option β) : Option β := (bif ((decide ((ByteArray.size x1) ≤ (4611686018427387903 : Nat))) && true) then (bif (!x2) then ((s7 x0 (x1 ++ (ByteArray.mk (List.toArray (List.map (fun n => (UInt8.ofNat (Int.toNat n))) [x5])))) (x5 == (34 : Int)) false x4 x6).bind ret) else (bif x3 then ((s7 x0 (x1 ++ (ByteArray.mk (List.toArray (List.map (fun n => (UInt8.ofNat (Int.toNat n))) [x5])))) x2 false x4 x6).bind ret) else (bif (x5 == (92 : Int)) then ((s7 x0 (x1 ++ (ByteArray.mk (List.toArray (List.map (fun n => (UInt8.ofNat (Int.toNat n))) [x5])))) x2 true x4 x6).bind ret) else (bif (x5 == (34 : Int)) then ((s7 x0 (x1 ++ (ByteArray.mk (List.toArray (List.map (fun n => (UInt8.ofNat (Int.toNat n))) [x5])))) false x3 x4 x6).bind ret) else ((s7 x0 (x1 ++ (ByteArray.mk (List.toArray (List.map (fun n => (UInt8.ofNat (Int.toNat n))) [x5])))) x2 x3 x4 x6).bind ret))))) else none)
def transomref36_Split.s7c {β : Type}  (s0 : ByteArray → Int → Option ((List ByteArray) × Int)) (s1 : ByteArray → Int → Bool → Option ((List ByteArray) × Int)) (s2 : ByteArray → Int → Option ((List ByteArray) × Int)) (s3 : ByteArray → ByteArray → Bool → Bool → Int → (List ByteArray) → Option ((List ByteArray) × Int)) (s4 : ByteArray → ByteArray → Bool → Bool → Int → Int → Bool → (List ByteArray) → Option ((List ByteArray) × Int)) (s5 : ByteArray → Bool → Bool → Int → (List ByteArray) → Option ((List ByteArray) × Int)) (s6 : ByteArray → ByteArray → Bool → Bool → Int → Int → (List ByteArray) → Option ((List ByteArray) × Int)) (s7 : ByteArray → ByteArray → Bool → Bool → Int → (List ByteArray) → Option ((List ByteArray) × Int)) (x0 : ByteArray) (x1 : ByteArray) (x2 : Bool) (x3 : Bool) (x4 : Int) (x5 : List ByteArray) (ret : ((List ByteArray) × Int) → Option β) : Option β := ((s3 x0 x1 x2 x3 (IntKind.wrap IntKind.i64 (x4 + (1 : Int))) x5).bind ret)
theorem transomref36_Split.c_bind {β : Type}  (s0 : ByteArray → Int → Option ((List ByteArray) × Int)) (s1 : ByteArray → Int → Bool → Option ((List ByteArray) × Int)) (s2 : ByteArray → Int → Option ((List ByteArray) × Int)) (s3 : ByteArray → ByteArray → Bool → Bool → Int → (List ByteArray) → Option ((List ByteArray) × Int)) (s4 : ByteArray → ByteArray → Bool → Bool → Int → Int → Bool → (List ByteArray) → Option ((List ByteArray) × Int)) (s5 : ByteArray → Bool → Bool → Int → (List ByteArray) → Option ((List ByteArray) × Int)) (s6 : ByteArray → ByteArray → Bool → Bool → Int → Int → (List ByteArray) → Option ((List ByteArray) × Int)) (s7 : ByteArray → ByteArray → Bool → Bool → Int → (List ByteArray) → Option ((List ByteArray) × Int)) (a0 : ByteArray) (ret : ((List ByteArray) × Int) → Option β) : transomref36_Split.c  s0 s1 s2 s3 s4 s5 s6 s7 a0 ret = (transomref36_Split.c  s0 s1 s2 s3 s4 s5 s6 s7 a0 some).bind ret := by
  simp only [transomref36_Split.c, bif_bind, sum_bind, Option.bind_assoc, Option.bind_some, Option.bind_none, Option.bind_fun_some]
theorem transomref36_Split.s0c_bind {β : Type}  (s0 : ByteArray → Int → Option ((List ByteArray) × Int)) (s1 : ByteArray → Int → Bool → Option ((List ByteArray) × Int)) (s2 : ByteArray → Int → Option ((List ByteArray) × Int)) (s3 : ByteArray → ByteArray → Bool → Bool → Int → (List ByteArray) → Option ((List ByteArray) × Int)) (s4 : ByteArray → ByteArray → Bool → Bool → Int → Int → Bool → (List ByteArray) → Option ((List ByteArray) × Int)) (s5 : ByteArray → Bool → Bool → Int → (List ByteArray) → Option ((List ByteArray) × Int)) (s6 : ByteArray → ByteArray → Bool → Bool → Int → Int → (List ByteArray) → Option ((List ByteArray) × Int)) (s7 : ByteArray → ByteArray → Bool → Bool → Int → (List ByteArray) → Option ((List ByteArray) × Int)) (x0 : ByteArray) (x1 : Int) (ret : ((List ByteArray) × Int) → Option β) : transomref36_Split.s0c  s0 s1 s2 s3 s4 s5 s6 s7 x0 x1 ret = (transomref36_Split.s0c  s0 s1 s2 s3 s4 s5 s6 s7 x0 x1 some).bind ret := by
  simp only [transomref36_Split.s0c, bif_bind, sum_bind, Option.bind_assoc, Option.bind_some, Option.bind_none, Option.bind_fun_some]
theorem transomref36_Split.s1c_bind {β : Type}  (s0 : ByteArray → Int → Option ((List ByteArray) × Int)) (s1 : ByteArray → Int → Bool → Option ((List ByteArray) × Int)) (s2 : ByteArray → Int → Option ((List ByteArray) × Int)) (s3 : ByteArray → ByteArray → Bool → Bool → Int → (List ByteArray) → Option ((List ByteArray) × Int)) (s4 : ByteArray → ByteArray → Bool → Bool → Int → Int → Bool → (List ByteArray) → Option ((List ByteArray) × Int)) (s5 : ByteArray → Bool → Bool → Int → (List ByteArray) → Option ((List ByteArray) × Int)) (s6 : ByteArray → ByteArray → Bool → Bool → Int → Int → (List ByteArray) → Option ((List ByteArray) × Int)) (s7 : ByteArray → ByteArray → Bool → Bool → Int → (List ByteArray) → Option ((List ByteArray) × Int)) (x0 : ByteArray) (x1 : Int) (x2 : Bool) (ret : ((List ByteArray) × Int) → Option β) : transomref36_Split.s1c  s0 s1 s2 s3 s4 s5 s6 s7 x0 x1 x2 ret = (transomref36_Split.s1c  s0 s1 s2 s3 s4 s5 s6 s7 x0 x1 x2 some).bind ret := by
  simp only [transomref36_Split.s1c, bif_bind, sum_bind, Option.bind_assoc, Option.bind_some, Option.bind_none, Option.bind_fun_some]
theorem transomref36_Split.s2c_bind {β : Type}  (s0 : ByteArray → Int → Option ((List ByteArray) × Int)) (s1 : ByteArray → Int → Bool → Option ((List ByteArray) × Int)) (s2 : ByteArray → Int → Option ((List ByteArray) × Int)) (s3 : ByteArray → ByteArray → Bool → Bool → Int → (List ByteArray) → Option ((List ByteArray) × Int)) (s4 : ByteArray → ByteArray → Bool → Bool → Int → Int → Bool → (List ByteArray) → Option ((List ByteArray) × Int)) (s5 : ByteArray → Bool → Bool → Int → (List ByteArray) → Option ((List ByteArray) × Int)) (s6 : ByteArray → ByteArray → Bool → Bool → Int → Int → (List ByteArray) → Option ((List ByteArray) × Int)) (s7 : ByteArray → ByteArray → Bool → Bool → Int → (List ByteArray) → Option ((List ByteArray) × Int)) (x0 : ByteArray) (x1 : Int) (ret : ((List ByteArray) × Int) → Option β) : transomref36_Split.s2c  s0 s1 s2 s3 s4 s5 s6 s7 x0 x1 ret = (transomref36_Split.s2c  s0 s1 s2 s3 s4 s5 s6 s7 x0 x1 some).bind ret := by
  simp only [transomref36_Split.s2c, bif_bind, sum_bind, Option.bind_assoc, Option.bind_some, Option.bind_none, Option.bind_fun_some]
theorem transomref36_Split.s3c_bind {β : Type}  (s0 : ByteArray → Int → Option ((List ByteArray) × Int)) (s1 : ByteArray → Int → Bool → Option ((List ByteArray) × Int)) (s2 : ByteArray → Int → Option ((List ByteArray) × Int)) (s3 : ByteArray → ByteArray → Bool → Bool → Int → (List ByteArray) → Option ((List ByteArray) × Int)) (s4 : ByteArray → ByteArray → Bool → Bool → Int → Int → Bool → (List ByteArray) → Option ((List ByteArray) × Int)) (s5 : ByteArray → Bool → Bool → Int → (List ByteArray) → Option ((List ByteArray) × Int)) (s6 : ByteArray → ByteArray → Bool → Bool → Int → Int → (List ByteArray) → Option ((List ByteArray) × Int)) (s7 : ByteArray → ByteArray → Bool → Bool → Int → (List ByteArray) → Option ((List ByteArray) × Int)) (x0 : ByteArray) (x1 : ByteArray) (x2 : Bool) (x3 : Bool) (x4 : Int) (x5 : List ByteArray) (ret : ((List ByteArray) × Int) → Option β) : transomref36_Split.s3c  s0 s1 s2 s3 s4 s5 s6 s7 x0 x1 x2 x3 x4 x5 ret = (transomref36_Split.s3c  s0 s1 s2 s3 s4 s5 s6 s7 x0 x1 x2 x3 x4 x5 some).bind ret := by
  simp only [transomref36_Split.s3c, bif_bind, sum_bind, Option.bind_assoc, Option.bind_some, Option.bind_none, Option.bind_fun_some]
theorem transomref36_Split.s4c_bind {β : Type}  (s0 : ByteArray → Int → Option ((List ByteArray) × Int)) (s1 : ByteArray → Int → Bool → Option ((List ByteArray) × Int)) (s2 : ByteArray → Int → Option ((List ByteArray) × Int)) (s3 : ByteArray → ByteArray → Bool → Bool → Int → (List ByteArray) → Option ((List ByteArray) × Int)) (s4 : ByteArray → ByteArray → Bool → Bool → Int → Int → Bool → (List ByteArray) → Option ((List ByteArray) × Int)) (s5 : ByteArray → Bool → Bool → Int → (List ByteArray) → Option ((List ByteArray) × Int)) (s6 : ByteArray → ByteArray → Bool → Bool → Int → Int → (List ByteArray) → Option ((List ByteArray) × Int)) (s7 : ByteArray → ByteArray → Bool → Bool → Int → (List ByteArray) → Option ((List ByteArray) × Int)) (x0 : ByteArray) (x1 : ByteArray) (x2 : Bool) (x3 : Bool) (x4 : Int) (x5 : Int) (x6 : Bool) (x7 : List ByteArray) (ret : ((List ByteArray) × Int) → Option β) : transomref36_Split.s4c  s0 s1 s2 s3 s4 s5 s6 s7 x0 x1 x2 x3 x4 x5 x6 x7 ret = (transomref36_Split.s4c  s0 s1 s2 s3 s4 s5 s6 s7 x0 x1 x2 x3 x4 x5 x6 x7 some).bind ret := by
  simp only [transomref36_Split.s4c, bif_bind, sum_bind, Option.bind_assoc, Option.bind_some, Option.bind_none, Option.bind_fun_some]
theorem transomref36_Split.s5c_bind {β : Type}  (s0 : ByteArray → Int → Option ((List ByteArray) × Int)) (s1 : ByteArray → Int → Bool → Option ((List ByteArray) × Int)) (s2 : ByteArray → Int → Option ((List ByteArray) × Int)) (s3 : ByteArray → ByteArray → Bool → Bool → Int → (List ByteArray) → Option ((List ByteArray) × Int)) (s4 : ByteArray → ByteArray → Bool → Bool → Int → Int → Bool → (List ByteArray) → Option ((List ByteArray) × Int)) (s5 : ByteArray → Bool → Bool → Int → (List ByteArray) → Option ((List ByteArray) × Int)) (s6 : ByteArray → ByteArray → Bool → Bool → Int → Int → (List ByteArray) → Option ((List ByteArray) × Int)) (s7 : ByteArray → ByteArray → Bool → Bool → Int → (List ByteArray) → Option ((List ByteArray) × Int)) (x0 : ByteArray) (x1 : Bool) (x2 : Bool) (x3 : Int) (x4 : List ByteArray) (ret : ((List ByteArray) × Int) → Option β) : transomref36_Split.s5c  s0 s1 s2 s3 s4 s5 s6 s7 x0 x1 x2 x3 x4 ret = (transomref36_Split.s5c  s0 s1 s2 s3 s4 s5 s6 s7 x0 x1 x2 x3 x4 some).bind ret := by
  simp only [transomref36_Split.s5c, bif_bind, sum_bind, Option.bind_assoc, Option.bind_some, Option.bind_none, Option.bind_fun_some]
theorem transomref36_Split.s6c_bind {β : Type}  (s0 : ByteArray → Int → Option ((List ByteArray) × Int)) (s1 : ByteArray → Int → Bool → Option ((List ByteArray) × Int)) (s2 : ByteArray → Int → Option ((List ByteArray) × Int)) (s3 : ByteArray → ByteArray → Bool → Bool → Int → (List ByteArray) → Option ((List ByteArray) × Int)) (s4 : ByteArray → ByteArray → Bool → Bool → Int → Int → Bool → (List ByteArray) → Option ((List ByteArray) × Int)) (s5 : ByteArray → Bool → Bool → Int → (List ByteArray) → Option ((List ByteArray) × Int)) (s6 : ByteArray → ByteArray → Bool → Bool → Int → Int → (List ByteArray) → Option ((List ByteArray) × Int)) (s7 : ByteArray → ByteArray → Bool → Bool → Int → (List ByteArray) → Option ((List ByteArray) × Int)) (x0 : ByteArray) (x1 : ByteArray) (x2 : Bool) (x3 : Bool) (x4 : Int) (x5 : Int) (x6 : List ByteArray) (ret : ((List ByteArray) × Int) → Option β) : transomref36_Split.s6c  s0 s1 s2 s3 s4 s5 s6 s7 x0 x1 x2 x3 x4 x5 x6 ret = (transomref36_Split.s6c  s0 s1 s2 s3 s4 s5 s6 s7 x0 x1 x2 x3 x4 x5 x6 some).bind ret := by
  simp only [transomref36_Split.s6c, bif_bind, sum_bind, Option.bind_assoc, Option.bind_some, Option.bind_none, Option.bind_fun_some]
theorem transomref36_Split.s7c_bind {β : Type}  (s0 : ByteArray → Int → Option ((List ByteArray) × Int)) (s1 : ByteArray → Int → Bool → Option ((List ByteArray) × Int)) (s2 : ByteArray → Int → Option ((List ByteArray) × Int)) (s3 : ByteArray → ByteArray → Bool → Bool → Int → (List ByteArray) → Option ((List ByteArray) × Int)) (s4 : ByteArray → ByteArray → Bool → Bool → Int → Int → Bool → (List ByteArray) → Option ((List ByteArray) × Int)) (s5 : ByteArray → Bool → Bool → Int → (List ByteArray) → Option ((List ByteArray) × Int)) (s6 : ByteArray → ByteArray → Bool → Bool → Int → Int → (List ByteArray) → Option ((List ByteArray) × Int)) (s7 : ByteArray → ByteArray → Bool → Bool → Int → (List ByteArray) → Option ((List ByteArray) × Int)) (x0 : ByteArray) (x1 : ByteArray) (x2 : Bool) (x3 : Bool) (x4 : Int) (x5 : List ByteArray) (ret : ((List ByteArray) × Int) → Option β) : transomref36_Split.s7c  s0 s1 s2 s3 s4 s5 s6 s7 x0 x1 x2 x3 x4 x5 ret = (transomref36_Split.s7c  s0 s1 s2 s3 s4 s5 s6 s7 x0 x1 x2 x3 x4 x5 some).bind ret := by
  simp only [transomref36_Split.s7c, bif_bind, sum_bind, Option.bind_assoc, Option.bind_some, Option.bind_none, Option.bind_fun_some]
theorem transomref36_Split.ev  (s0 : ByteArray → Int → Option ((List ByteArray) × Int)) (s1 : ByteArray → Int → Bool → Option ((List ByteArray) × Int)) (s2 : ByteArray → Int → Option ((List ByteArray) × Int)) (s3 : ByteArray → ByteArray → Bool → Bool → Int → (List ByteArray) → Option ((List ByteArray) × Int)) (s4 : ByteArray → ByteArray → Bool → Bool → Int → Int → Bool → (List ByteArray) → Option ((List ByteArray) × Int)) (s5 : ByteArray → Bool → Bool → Int → (List ByteArray) → Option ((List ByteArray) × Int)) (s6 : ByteArray → ByteArray → Bool → Bool → Int → Int → (List ByteArray) → Option ((List ByteArray) × Int)) (s7 : ByteArray → ByteArray → Bool → Bool → Int → (List ByteArray) → Option ((List ByteArray) × Int)) (a0 : ByteArray) : evAt (env_transomref36_Split  s0 s1 s2 s3 s4 s5 s6 s7) [] [0] [.v (.one (.d .str a0))] [] some = transomref36_Split.c  s0 s1 s2 s3 s4 s5 s6 s7 a0 (fun r => some ⟨.tup [(.one (.d (.sl .str) r.1)), (.one (.d (.int .i64) r.2))], []⟩) := by
  kernel_rfl
theorem transomref36_Split.s0_ev  (s0 : ByteArray → Int → Option ((List ByteArray) × Int)) (s1 : ByteArray → Int → Bool → Option ((List ByteArray) × Int)) (s2 : ByteArray → Int → Option ((List ByteArray) × Int)) (s3 : ByteArray → ByteArray → Bool → Bool → Int → (List ByteArray) → Option ((List ByteArray) × Int)) (s4 : ByteArray → ByteArray → Bool → Bool → Int → Int → Bool → (List ByteArray) → Option ((List ByteArray) × Int)) (s5 : ByteArray → Bool → Bool → Int → (List ByteArray) → Option ((List ByteArray) × Int)) (s6 : ByteArray → ByteArray → Bool → Bool → Int → Int → (List ByteArray) → Option ((List ByteArray) × Int)) (s7 : ByteArray → ByteArray → Bool → Bool → Int → (List ByteArray) → Option ((List ByteArray) × Int)) (x0 : ByteArray) (x1 : Int) : evAt (env_transomref36_Split  s0 s1 s2 s3 s4 s5 s6 s7) [4, 1, 0, 1] [0, 4] [.v (.one (.d .str x0)), .v (.one (.d (.int .i64) x1))] [] some = transomref36_Split.s0c  s0 s1 s2 s3 s4 s5 s6 s7 x0 x1 (fun r => some ⟨.tup [(.one (.d (.sl .str) r.1)), (.one (.d (.int .i64) r.2))], []⟩) := by
  kernel_rfl
theorem transomref36_Split.s1_ev  (s0 : ByteArray → Int → Option ((List ByteArray) × Int)) (s1 : ByteArray → Int → Bool → Option ((List ByteArray) × Int)) (s2 : ByteArray → Int → Option ((List ByteArray) × Int)) (s3 : ByteArray → ByteArray → Bool → Bool → Int → (List ByteArray) → Option ((List ByteArray) × Int)) (s4 : ByteArray → ByteArray → Bool → Bool → Int → Int → Bool → (List ByteArray) → Option ((List ByteArray) × Int)) (s5 : ByteArray → Bool → Bool → Int → (List ByteArray) → Option ((List ByteArray) × Int)) (s6 : ByteArray → ByteArray → Bool → Bool → Int → Int → (List ByteArray) → Option ((List ByteArray) × Int)) (s7 : ByteArray → ByteArray → Bool → Bool → Int → (List ByteArray) → Option ((List ByteArray) × Int)) (x0 : ByteArray) (x1 : Int) (x2 : Bool) : evAt (env_transomref36_Split  s0 s1 s2 s3 s4 s5 s6 s7) [1, 4, 0, 1, 5, 4, 1, 0, 1] [0, 4, 26] [.v (.one (.d .str x0)), .v (.one (.d (.int .i64) x1)), .v (.one (.d .bool x2))] [] some = transomref36_Split.s1c  s0 s1 s2 s3 s4 s5 s6 s7 x0 x1 x2 (fun r => some ⟨.tup [(.one (.d (.sl .str) r.1)), (.one (.d (.int .i64) r.2))], []⟩) := by
  kernel_rfl
theorem transomref36_Split.s2_ev  (s0 : ByteArray → Int → Option ((List ByteArray) × Int)) (s1 : ByteArray → Int → Bool → Option ((List ByteArray) × Int)) (s2 : ByteArray → Int → Option ((List ByteArray) × Int)) (s3 : ByteArray → ByteArray → Bool → Bool → Int → (List ByteArray) → Option ((List ByteArray) × Int)) (s4 : ByteArray → ByteArray → Bool → Bool → Int → Int → Bool → (List ByteArray) → Option ((List ByteArray) × Int)) (s5 : ByteArray → Bool → Bool → Int → (List ByteArray) → Option ((List ByteArray) × Int)) (s6 : ByteArray → ByteArray → Bool → Bool → Int → Int → (List ByteArray) → Option ((List ByteArray) × Int)) (s7 : ByteArray → ByteArray → Bool → Bool → Int → (List ByteArray) → Option ((List ByteArray) × Int)) (x0 : ByteArray) (x1 : Int) : evAt (env_transomref36_Split  s0 s1 s2 s3 s4 s5 s6 s7) [1, 1, 5, 4, 1, 0, 1] [0, 4] [.v (.one (.d .str x0)), .v (.one (.d (.int .i64) x1))] [] some = transomref36_Split.s2c  s0 s1 s2 s3 s4 s5 s6 s7 x0 x1 (fun r => some ⟨.tup [(.one (.d (.sl .str) r.1)), (.one (.d (.int .i64) r.2))], []⟩) := by
  kernel_rfl
theorem transomref36_Split.s3_ev  (s0 : ByteArray → Int → Option ((List ByteArray) × Int)) (s1 : ByteArray → Int → Bool → Option ((List ByteArray) × Int)) (s2 : ByteArray → Int → Option ((List ByteArray) × Int)) (s3 : ByteArray → ByteArray → Bool → Bool → Int → (List ByteArray) → Option ((List ByteArray) × Int)) (s4 : ByteArray → ByteArray → Bool → Bool → Int → Int → Bool → (List ByteArray) → Option ((List ByteArray) × Int)) (s5 : ByteArray → Bool → Bool → Int → (List ByteArray) → Option ((List ByteArray) × Int)) (s6 : ByteArray → ByteArray → Bool → Bool → Int → Int → (List ByteArray) → Option ((List ByteArray) × Int)) (s7 : ByteArray → ByteArray → Bool → Bool → Int → (List ByteArray) → Option ((List ByteArray) × Int)) (x0 : ByteArray) (x1 : ByteArray) (x2 : Bool) (x3 : Bool) (x4 : Int) (x5 : List ByteArray) : evAt (env_transomref36_Split  s0 s1 s2 s3 s4 s5 s6 s7) [4, 1, 0, 1, 1, 1, 1, 1, 1] [0, 5, 6, 7, 8, 9] [.v (.one (.d .str x0)), .v (.one (.own 0)), .v (.one (.d .str x1)), .v (.one (.d .bool x2)), .v (.one (.d .bool x3)), .v (.one (.d (.int .i64) x4))] [some (.own .str false x5)] some = transomref36_Split.s3c  s0 s1 s2 s3 s4 s5 s6 s7 x0 x1 x2 x3 x4 x5 (fun r => some ⟨.tup [(.one (.d (.sl .str) r.1)), (.one (.d (.int .i64) r.2))], []⟩) := by
  kernel_rfl
theorem transomref36_Split.s4_ev  (s0 : ByteArray → Int → Option ((List ByteArray) × Int)) (s1 : ByteArray → Int → Bool → Option ((List ByteArray) × Int)) (s2 : ByteArray → Int → Option ((List ByteArray) × Int)) (s3 : ByteArray → ByteArray → Bool → Bool → Int → (List ByteArray) → Option ((List ByteArray) × Int)) (s4 : ByteArray → ByteArray → Bool → Bool → Int → Int → Bool → (List ByteArray) → Option ((List ByteArray) × Int)) (s5 : ByteArray → Bool → Bool → Int → (List ByteArray) → Option ((List ByteArray) × Int)) (s6 : ByteArray → ByteArray → Bool → Bool → Int → Int → (List ByteArray) → Option ((List ByteArray) × Int)) (s7 : ByteArray → ByteArray → Bool → Bool → Int → (List ByteArray) → Option ((List ByteArray) × Int)) (x0 : ByteArray) (x1 : ByteArray) (x2 : Bool) (x3 : Bool) (x4 : Int) (x5 : Int) (x6 : Bool) (x7 : List ByteArray) : evAt (env_transomref36_Split  s0 s1 s2 s3 s4 s5 s6 s7) [1, 0, 1, 4, 0, 1, 5, 4, 1, 0, 1, 1, 1, 1, 1, 1] [0, 5, 6, 7, 8, 9, 10, 41] [.v (.one (.d .str x0)), .v (.one (.own 0)), .v (.one (.d .str x1)), .v (.one (.d .bool x2)), .v (.one (.d .bool x3)), .v (.one (.d (.int .i64) x4)), .v (.one (.d (.int .u8) x5)), .v (.one (.d .bool x6))] [some (.own .str false x7)] some = transomref36_Split.s4c  s0 s1 s2 s3 s4 s5 s6 s7 x0 x1 x2 x3 x4 x5 x6 x7 (fun r => some ⟨.tup [(.one (.d (.sl .str) r.1)), (.one (.d (.int .i64) r.2))], []⟩) := by
  kernel_rfl
theorem transomref36_Split.s5_ev  (s0 : ByteArray → Int → Option ((List ByteArray) × Int)) (s1 : ByteArray → Int → Bool → Option ((List ByteArray) × Int)) (s2 : ByteArray → Int → Option ((List ByteArray) × Int)) (s3 : ByteArray → ByteArray → Bool → Bool → Int → (List ByteArray) → Option ((List ByteArray) × Int)) (s4 : ByteArray → ByteArray → Bool → Bool → Int → Int → Bool → (List ByteArray) → Option ((List ByteArray) × Int)) (s5 : ByteArray → Bool → Bool → Int → (List ByteArray) → Option ((List ByteArray) × Int)) (s6 : ByteArray → ByteArray → Bool → Bool → Int → Int → (List ByteArray) → Option ((List ByteArray) × Int)) (s7 : ByteArray → ByteArray → Bool → Bool → Int → (List ByteArray) → Option ((List ByteArray) × Int)) (x0 : ByteArray) (x1 : Bool) (x2 : Bool) (x3 : Int) (x4 : List ByteArray) : evAt (env_transomref36_Split  s0 s1 s2 s3 s4 s5 s6 s7) [1, 2, 1, 0, 1, 4, 0, 1, 5, 4, 1, 0, 1, 1, 1, 1, 1, 1] [0, 5, 7, 8, 9] [.v (.one (.d .str x0)), .v (.one (.own 0)), .v (.one (.d .bool x1)), .v (.one (.d .bool x2)), .v (.one (.d (.int .i64) x3))] [some (.own .str false x4)] some = transomref36_Split.s5c  s0 s1 s2 s3 s4 s5 s6 s7 x0 x1 x2 x3 x4 (fun r => some ⟨.tup [(.one (.d (.sl .str) r.1)), (.one (.d (.int .i64) r.2))], []⟩) := by
  kernel_rfl
theorem transomref36_Split.s6_ev  (s0 : ByteArray → Int → Option ((List ByteArray) × Int)) (s1 : ByteArray → Int → Bool → Option ((List ByteArray) × Int)) (s2 : ByteArray → Int → Option ((List ByteArray) × Int)) (s3 : ByteArray → ByteArray → Bool → Bool → Int → (List ByteArray) → Option ((List ByteArray) × Int)) (s4 : ByteArray → ByteArray → Bool → Bool → Int → Int → Bool → (List ByteArray) → Option ((List ByteArray) × Int)) (s5 : ByteArray → Bool → Bool → Int → (List ByteArray) → Option ((List ByteArray) × Int)) (s6 : ByteArray → ByteArray → Bool → Bool → Int → Int → (List ByteArray) → Option ((List ByteArray) × Int)) (s7 : ByteArray → ByteArray → Bool → Bool → Int → (List ByteArray) → Option ((List ByteArray) × Int)) (x0 : ByteArray) (x1 : ByteArray) (x2 : Bool) (x3 : Bool) (x4 : Int) (x5 : Int) (x6 : List ByteArray) : evAt (env_transomref36_Split  s0 s1 s2 s3 s4 s5 s6 s7) [1, 1, 4, 0, 1, 5, 4, 1, 0, 1, 1, 1, 1, 1, 1] [0, 5, 6, 7, 8, 9, 10] [.v (.one (.d .str x0)), .v (.one (.own 0)), .v (.one (.d .str x1)), .v (.one (.d .bool x2)), .v (.one (.d .bool x3)), .v (.one (.d (.int .i64) x4)), .v (.one (.d (.int .u8) x5))] [some (.own .str false x6)] some = transomref36_Split.s6c  s0 s1 s2 s3 s4 s5 s6 s7 x0 x1 x2 x3 x4 x5 x6 (fun r => some ⟨.tup [(.one (.d (.sl .str) r.1)), (.one (.d (.int .i64) r.2))], []⟩) := by
  kernel_rfl
theorem transomref36_Split.s7_ev  (s0 : ByteArray → Int → Option ((List ByteArray) × Int)) (s1 : ByteArray → Int → Bool → Option ((List ByteArray) × Int)) (s2 : ByteArray → Int → Option ((List ByteArray) × Int)) (s3 : ByteArray → ByteArray → Bool → Bool → Int → (List ByteArray) → Option ((List ByteArray) × Int)) (s4 : ByteArray → ByteArray → Bool → Bool → Int → Int → Bool → (List ByteArray) → Option ((List ByteArray) × Int)) (s5 : ByteArray → Bool → Bool → Int → (List ByteArray) → Option ((List ByteArray) × Int)) (s6 : ByteArray → ByteArray → Bool → Bool → Int → Int → (List ByteArray) → Option ((List ByteArray) × Int)) (s7 : ByteArray → ByteArray → Bool → Bool → Int → (List ByteArray) → Option ((List ByteArray) × Int)) (x0 : ByteArray) (x1 : ByteArray) (x2 : Bool) (x3 : Bool) (x4 : Int) (x5 : List ByteArray) : evAt (env_transomref36_Split  s0 s1 s2 s3 s4 s5 s6 s7) [1, 1, 5, 4, 1, 0, 1, 1, 1, 1, 1, 1] [0, 5, 6, 7, 8, 9] [.v (.one (.d .str x0)), .v (.one (.own 0)), .v (.one (.d .str x1)), .v (.one (.d .bool x2)), .v (.one (.d .bool x3)), .v (.one (.d (.int .i64) x4))] [some (.own .str false x5)] some = transomref36_Split.s7c  s0 s1 s2 s3 s4 s5 s6 s7 x0 x1 x2 x3 x4 x5 (fun r => some ⟨.tup [(.one (.d (.sl .str) r.1)), (.one (.d (.int .i64) r.2))], []⟩) := by
  kernel_rfl
mutual
def transomref36_Split.s0 : Nat → ByteArray → Int → Option ((List ByteArray) × Int)
  | 0, _, _ => none
  | k + 1, x0, x1 => transomref36_Split.s0c  (transomref36_Split.s0 k) (transomref36_Split.s1 k) (transomref36_Split.s2 k) (transomref36_Split.s3 k) (transomref36_Split.s4 k) (transomref36_Split.s5 k) (transomref36_Split.s6 k) (transomref36_Split.s7 k) x0 x1 some
def transomref36_Split.s1 : Nat → ByteArray → Int → Bool → Option ((List ByteArray) × Int)
  | 0, _, _, _ => none
  | k + 1, x0, x1, x2 => transomref36_Split.s1c  (transomref36_Split.s0 k) (transomref36_Split.s1 k) (transomref36_Split.s2 k) (transomref36_Split.s3 k) (transomref36_Split.s4 k) (transomref36_Split.s5 k) (transomref36_Split.s6 k) (transomref36_Split.s7 k) x0 x1 x2 some
def transomref36_Split.s2 : Nat → ByteArray → Int → Option ((List ByteArray) × Int)
  | 0, _, _ => none
  | k + 1, x0, x1 => transomref36_Split.s2c  (transomref36_Split.s0 k) (transomref36_Split.s1 k) (transomref36_Split.s2 k) (transomref36_Split.s3 k) (transomref36_Split.s4 k) (transomref36_Split.s5 k) (transomref36_Split.s6 k) (transomref36_Split.s7 k) x0 x1 some
def transomref36_Split.s3 : Nat → ByteArray → ByteArray → Bool → Bool → Int → (List ByteArray) → Option ((List ByteArray) × Int)
  | 0, _, _, _, _, _, _ => none
  | k + 1, x0, x1, x2, x3, x4, x5 => transomref36_Split.s3c  (transomref36_Split.s0 k) (transomref36_Split.s1 k) (transomref36_Split.s2 k) (transomref36_Split.s3 k) (transomref36_Split.s4 k) (transomref36_Split.s5 k) (transomref36_Split.s6 k) (transomref36_Split.s7 k) x0 x1 x2 x3 x4 x5 some
def transomref36_Split.s4 : Nat → ByteArray → ByteArray → Bool → Bool → Int → Int → Bool → (List ByteArray) → Option ((List ByteArray) × Int)
  | 0, _, _, _, _, _, _, _, _ => none
  | k + 1, x0, x1, x2, x3, x4, x5, x6, x7 => transomref36_Split.s4c  (transomref36_Split.s0 k) (transomref36_Split.s1 k) (transomref36_Split.s2 k) (transomref36_Split.s3 k) (transomref36_Split.s4 k) (transomref36_Split.s5 k) (transomref36_Split.s6 k) (transomref36_Split.s7 k) x0 x1 x2 x3 x4 x5 x6 x7 some
def transomref36_Split.s5 : Nat → ByteArray → Bool → Bool → Int → (List ByteArray) → Option ((List ByteArray) × Int)
  | 0, _, _, _, _, _ => none
  | k + 1, x0, x1, x2, x3, x4 => transomref36_Split.s5c  (transomref36_Split.s0 k) (transomref36_Split.s1 k) (transomref36_Split.s2 k) (transomref36_Split.s3 k) (transomref36_Split.s4 k) (transomref36_Split.s5 k) (transomref36_Split.s6 k) (transomref36_Split.s7 k) x0 x1 x2 x3 x4 some
def transomref36_Split.s6 : Nat → ByteArray → ByteArray → Bool → Bool → Int → Int → (List ByteArray) → Option ((List ByteArray) × Int)
  | 0, _, _, _, _, _, _, _ => none
  | k + 1, x0, x1, x2, x3, x4, x5, x6 => transomref36_Split.s6c  (transomref36_Split.s0 k) (transomref36_Split.s1 k) (transomref36_Split.s2 k) (transomref36_Split.s3 k) (transomref36_Split.s4 k) (transomref36_Split.s5 k) (transomref36_Split.s6 k) (transomref36_Split.s7 k) x0 x1 x2 x3 x4 x5 x6 some
def transomref36_Split.s7 : Nat → ByteArray → ByteArray → Bool → Bool → Int → (List ByteArray) → Option ((List ByteArray) × Int)
  | 0, _, _, _, _, _, _ => none
  | k + 1, x0, x1, x2, x3, x4, x5 => transomref36_Split.s7c  (transomref36_Split.s0 k) (transomref36_Split.s1 k) (transomref36_Split.s2 k) (transomref36_Split.s3 k) (transomref36_Split.s4 k) (transomref36_Split.s5 k) (transomref36_Split.s6 k) (transomref36_Split.s7 k) x0 x1 x2 x3 x4 x5 some
end
def transomref36_Split.f (k : Nat) (a0 : ByteArray) : Option ((List ByteArray) × Int) := transomref36_Split.c  (transomref36_Split.s0 k) (transomref36_Split.s1 k) (transomref36_Split.s2 k) (transomref36_Split.s3 k) (transomref36_Split.s4 k) (transomref36_Split.s5 k) (transomref36_Split.s6 k) (transomref36_Split.s7 k) a0 some
theorem transomref36_Split.is  (s0 : ByteArray → Int → Option ((List ByteArray) × Int)) (s1 : ByteArray → Int → Bool → Option ((List ByteArray) × Int)) (s2 : ByteArray → Int → Option ((List ByteArray) × Int)) (s3 : ByteArray → ByteArray → Bool → Bool → Int → (List ByteArray) → Option ((List ByteArray) × Int)) (s4 : ByteArray → ByteArray → Bool → Bool → Int → Int → Bool → (List ByteArray) → Option ((List ByteArray) × Int)) (s5 : ByteArray → Bool → Bool → Int → (List ByteArray) → Option ((List ByteArray) × Int)) (s6 : ByteArray → ByteArray → Bool → Bool → Int → Int → (List ByteArray) → Option ((List ByteArray) × Int)) (s7 : ByteArray → ByteArray → Bool → Bool → Int → (List ByteArray) → Option ((List ByteArray) × Int)) : FnIs (env_transomref36_Split  s0 s1 s2 s3 s4 s5 s6 s7) 9 Go.Proofs.Try.f9 := ⟨Go.Proofs.Try.func9, rfl, rfl, rfl, by decide⟩
theorem transomref36_Split.envok  (s0 : ByteArray → Int → Option ((List ByteArray) × Int)) (s1 : ByteArray → Int → Bool → Option ((List ByteArray) × Int)) (s2 : ByteArray → Int → Option ((List ByteArray) × Int)) (s3 : ByteArray → ByteArray → Bool → Bool → Int → (List ByteArray) → Option ((List ByteArray) × Int)) (s4 : ByteArray → ByteArray → Bool → Bool → Int → Int → Bool → (List ByteArray) → Option ((List ByteArray) × Int)) (s5 : ByteArray → Bool → Bool → Int → (List ByteArray) → Option ((List ByteArray) × Int)) (s6 : ByteArray → ByteArray → Bool → Bool → Int → Int → (List ByteArray) → Option ((List ByteArray) × Int)) (s7 : ByteArray → ByteArray → Bool → Bool → Int → (List ByteArray) → Option ((List ByteArray) × Int))  : EnvOK (env_transomref36_Split  s0 s1 s2 s3 s4 s5 s6 s7).toEnv := by
  intro f c h
  simp only [env_transomref36_Split] at h
  simp at h
theorem transomref36_Split.segs_ok : ∀ k, ∀ s ∈ (env_transomref36_Split  (transomref36_Split.s0 k) (transomref36_Split.s1 k) (transomref36_Split.s2 k) (transomref36_Split.s3 k) (transomref36_Split.s4 k) (transomref36_Split.s5 k) (transomref36_Split.s6 k) (transomref36_Split.s7 k)).segs, SegOK (env_transomref36_Split  (transomref36_Split.s0 k) (transomref36_Split.s1 k) (transomref36_Split.s2 k) (transomref36_Split.s3 k) (transomref36_Split.s4 k) (transomref36_Split.s5 k) (transomref36_Split.s6 k) (transomref36_Split.s7 k)) Go.Proofs.Try.f9 s
  | 0 => by
    intro s hs
    simp only [env_transomref36_Split, List.mem_cons, List.not_mem_nil, or_false] at hs
    rcases hs with rfl | rfl | rfl | rfl | rfl | rfl | rfl | rfl
    · intro tvs blks res h; exfalso; simp only [seg_transomref36_Split_0] at h; split at h <;> simp [transomref36_Split.s0] at h
    · intro tvs blks res h; exfalso; simp only [seg_transomref36_Split_1] at h; split at h <;> simp [transomref36_Split.s1] at h
    · intro tvs blks res h; exfalso; simp only [seg_transomref36_Split_2] at h; split at h <;> simp [transomref36_Split.s2] at h
    · intro tvs blks res h; exfalso; simp only [seg_transomref36_Split_3] at h; split at h <;> simp [transomref36_Split.s3] at h
    · intro tvs blks res h; exfalso; simp only [seg_transomref36_Split_4] at h; split at h <;> simp [transomref36_Split.s4] at h
    · intro tvs blks res h; exfalso; simp only [seg_transomref36_Split_5] at h; split at h <;> simp [transomref36_Split.s5] at h
    · intro tvs blks res h; exfalso; simp only [seg_transomref36_Split_6] at h; split at h <;> simp [transomref36_Split.s6] at h
    · intro tvs blks res h; exfalso; simp only [seg_transomref36_Split_7] at h; split at h <;> simp [transomref36_Split.s7] at h
  | k + 1 => by
    have ih := transomref36_Split.segs_ok k
    intro s hs
    simp only [env_transomref36_Split, List.mem_cons, List.not_mem_nil, or_false] at hs
    rcases hs with rfl | rfl | rfl | rfl | rfl | rfl | rfl | rfl
    · refine seg_of_ev (E := env_transomref36_Split  (transomref36_Split.s0 k) (transomref36_Split.s1 k) (transomref36_Split.s2 k) (transomref36_Split.s3 k) (transomref36_Split.s4 k) (transomref36_Split.s5 k) (transomref36_Split.s6 k) (transomref36_Split.s7 k)) (transomref36_Split.envok _ _ _ _ _ _ _ _  ) ⟨(transomref36_Split.is  (transomref36_Split.s0 k) (transomref36_Split.s1 k) (transomref36_Split.s2 k) (transomref36_Split.s3 k) (transomref36_Split.s4 k) (transomref36_Split.s5 k) (transomref36_Split.s6 k) (transomref36_Split.s7 k)).rvs⟩ ih ?_
      intro tvs blks res h
      simp only [seg_transomref36_Split_0] at h
      split at h
      · refine (transomref36_Split.s0_ev  (transomref36_Split.s0 k) (transomref36_Split.s1 k) (transomref36_Split.s2 k) (transomref36_Split.s3 k) (transomref36_Split.s4 k) (transomref36_Split.s5 k) (transomref36_Split.s6 k) (transomref36_Split.s7 k) _ _ ).trans ?_
        rw [transomref36_Split.s0c_bind]
        exact h
      · simp at h
    · refine seg_of_ev (E := env_transomref36_Split  (transomref36_Split.s0 k) (transomref36_Split.s1 k) (transomref36_Split.s2 k) (transomref36_Split.s3 k) (transomref36_Split.s4 k) (transomref36_Split.s5 k) (transomref36_Split.s6 k) (transomref36_Split.s7 k)) (transomref36_Split.envok _ _ _ _ _ _ _ _  ) ⟨(transomref36_Split.is  (transomref36_Split.s0 k) (transomref36_Split.s1 k) (transomref36_Split.s2 k) (transomref36_Split.s3 k) (transomref36_Split.s4 k) (transomref36_Split.s5 k) (transomref36_Split.s6 k) (transomref36_Split.s7 k)).rvs⟩ ih ?_
      intro tvs blks res h
      simp only [seg_transomref36_Split_1] at h
      split at h
      · refine (transomref36_Split.s1_ev  (transomref36_Split.s0 k) (transomref36_Split.s1 k) (transomref36_Split.s2 k) (transomref36_Split.s3 k) (transomref36_Split.s4 k) (transomref36_Split.s5 k) (transomref36_Split.s6 k) (transomref36_Split.s7 k) _ _ _ ).trans ?_
        rw [transomref36_Split.s1c_bind]
        exact h
      · simp at h
    · refine seg_of_ev (E := env_transomref36_Split  (transomref36_Split.s0 k) (transomref36_Split.s1 k) (transomref36_Split.s2 k) (transomref36_Split.s3 k) (transomref36_Split.s4 k) (transomref36_Split.s5 k) (transomref36_Split.s6 k) (transomref36_Split.s7 k)) (transomref36_Split.envok _ _ _ _ _ _ _ _  ) ⟨(transomref36_Split.is  (transomref36_Split.s0 k) (transomref36_Split.s1 k) (transomref36_Split.s2 k) (transomref36_Split.s3 k) (transomref36_Split.s4 k) (transomref36_Split.s5 k) (transomref36_Split.s6 k) (transomref36_Split.s7 k)).rvs⟩ ih ?_
      intro tvs blks res h
      simp only [seg_transomref36_Split_2] at h
      split at h
      · refine (transomref36_Split.s2_ev  (transomref36_Split.s0 k) (transomref36_Split.s1 k) (transomref36_Split.s2 k) (transomref36_Split.s3 k) (transomref36_Split.s4 k) (transomref36_Split.s5 k) (transomref36_Split.s6 k) (transomref36_Split.s7 k) _ _ ).trans ?_
        rw [transomref36_Split.s2c_bind]
        exact h
      · simp at h
    · refine seg_of_ev (E := env_transomref36_Split  (transomref36_Split.s0 k) (transomref36_Split.s1 k) (transomref36_Split.s2 k) (transomref36_Split.s3 k) (transomref36_Split.s4 k) (transomref36_Split.s5 k) (transomref36_Split.s6 k) (transomref36_Split.s7 k)) (transomref36_Split.envok _ _ _ _ _ _ _ _  ) ⟨(transomref36_Split.is  (transomref36_Split.s0 k) (transomref36_Split.s1 k) (transomref36_Split.s2 k) (transomref36_Split.s3 k) (transomref36_Split.s4 k) (transomref36_Split.s5 k) (transomref36_Split.s6 k) (transomref36_Split.s7 k)).rvs⟩ ih ?_
      intro tvs blks res h
      simp only [seg_transomref36_Split_3] at h
      split at h
      · refine (transomref36_Split.s3_ev  (transomref36_Split.s0 k) (transomref36_Split.s1 k) (transomref36_Split.s2 k) (transomref36_Split.s3 k) (transomref36_Split.s4 k) (transomref36_Split.s5 k) (transomref36_Split.s6 k) (transomref36_Split.s7 k) _ _ _ _ _ _ ).trans ?_
        rw [transomref36_Split.s3c_bind]
        exact h
      · simp at h
    · refine seg_of_ev (E := env_transomref36_Split  (transomref36_Split.s0 k) (transomref36_Split.s1 k) (transomref36_Split.s2 k) (transomref36_Split.s3 k) (transomref36_Split.s4 k) (transomref36_Split.s5 k) (transomref36_Split.s6 k) (transomref36_Split.s7 k)) (transomref36_Split.envok _ _ _ _ _ _ _ _  ) ⟨(transomref36_Split.is  (transomref36_Split.s0 k) (transomref36_Split.s1 k) (transomref36_Split.s2 k) (transomref36_Split.s3 k) (transomref36_Split.s4 k) (transomref36_Split.s5 k) (transomref36_Split.s6 k) (transomref36_Split.s7 k)).rvs⟩ ih ?_
      intro tvs blks res h
      simp only [seg_transomref36_Split_4] at h
      split at h
      · refine (transomref36_Split.s4_ev  (transomref36_Split.s0 k) (transomref36_Split.s1 k) (transomref36_Split.s2 k) (transomref36_Split.s3 k) (transomref36_Split.s4 k) (transomref36_Split.s5 k) (transomref36_Split.s6 k) (transomref36_Split.s7 k) _ _ _ _ _ _ _ _ ).trans ?_
        rw [transomref36_Split.s4c_bind]
        exact h
      · simp at h
    · refine seg_of_ev (E := env_transomref36_Split  (transomref36_Split.s0 k) (transomref36_Split.s1 k) (transomref36_Split.s2 k) (transomref36_Split.s3 k) (transomref36_Split.s4 k) (transomref36_Split.s5 k) (transomref36_Split.s6 k) (transomref36_Split.s7 k)) (transomref36_Split.envok _ _ _ _ _ _ _ _  ) ⟨(transomref36_Split.is  (transomref36_Split.s0 k) (transomref36_Split.s1 k) (transomref36_Split.s2 k) (transomref36_Split.s3 k) (transomref36_Split.s4 k) (transomref36_Split.s5 k) (transomref36_Split.s6 k) (transomref36_Split.s7 k)).rvs⟩ ih ?_
      intro tvs blks res h
      simp only [seg_transomref36_Split_5] at h
      split at h
      · refine (transomref36_Split.s5_ev  (transomref36_Split.s0 k) (transomref36_Split.s1 k) (transomref36_Split.s2 k) (transomref36_Split.s3 k) (transomref36_Split.s4 k) (transomref36_Split.s5 k) (transomref36_Split.s6 k) (transomref36_Split.s7 k) _ _ _ _ _ ).trans ?_
        rw [transomref36_Split.s5c_bind]
        exact h
      · simp at h
    · refine seg_of_ev (E := env_transomref36_Split  (transomref36_Split.s0 k) (transomref36_Split.s1 k) (transomref36_Split.s2 k) (transomref36_Split.s3 k) (transomref36_Split.s4 k) (transomref36_Split.s5 k) (transomref36_Split.s6 k) (transomref36_Split.s7 k)) (transomref36_Split.envok _ _ _ _ _ _ _ _  ) ⟨(transomref36_Split.is  (transomref36_Split.s0 k) (transomref36_Split.s1 k) (transomref36_Split.s2 k) (transomref36_Split.s3 k) (transomref36_Split.s4 k) (transomref36_Split.s5 k) (transomref36_Split.s6 k) (transomref36_Split.s7 k)).rvs⟩ ih ?_
      intro tvs blks res h
      simp only [seg_transomref36_Split_6] at h
      split at h
      · refine (transomref36_Split.s6_ev  (transomref36_Split.s0 k) (transomref36_Split.s1 k) (transomref36_Split.s2 k) (transomref36_Split.s3 k) (transomref36_Split.s4 k) (transomref36_Split.s5 k) (transomref36_Split.s6 k) (transomref36_Split.s7 k) _ _ _ _ _ _ _ ).trans ?_
        rw [transomref36_Split.s6c_bind]
        exact h
      · simp at h
    · refine seg_of_ev (E := env_transomref36_Split  (transomref36_Split.s0 k) (transomref36_Split.s1 k) (transomref36_Split.s2 k) (transomref36_Split.s3 k) (transomref36_Split.s4 k) (transomref36_Split.s5 k) (transomref36_Split.s6 k) (transomref36_Split.s7 k)) (transomref36_Split.envok _ _ _ _ _ _ _ _  ) ⟨(transomref36_Split.is  (transomref36_Split.s0 k) (transomref36_Split.s1 k) (transomref36_Split.s2 k) (transomref36_Split.s3 k) (transomref36_Split.s4 k) (transomref36_Split.s5 k) (transomref36_Split.s6 k) (transomref36_Split.s7 k)).rvs⟩ ih ?_
      intro tvs blks res h
      simp only [seg_transomref36_Split_7] at h
      split at h
      · refine (transomref36_Split.s7_ev  (transomref36_Split.s0 k) (transomref36_Split.s1 k) (transomref36_Split.s2 k) (transomref36_Split.s3 k) (transomref36_Split.s4 k) (transomref36_Split.s5 k) (transomref36_Split.s6 k) (transomref36_Split.s7 k) _ _ _ _ _ _ ).trans ?_
        rw [transomref36_Split.s7c_bind]
        exact h
      · simp at h
theorem transomref36_Split.ok (k : Nat) : CtOK Go.Proofs.Try.prog 9 (ct_transomref36_Split (transomref36_Split.f k)) := by
  refine ct_of_ev (E := env_transomref36_Split  (transomref36_Split.s0 k) (transomref36_Split.s1 k) (transomref36_Split.s2 k) (transomref36_Split.s3 k) (transomref36_Split.s4 k) (transomref36_Split.s5 k) (transomref36_Split.s6 k) (transomref36_Split.s7 k)) (transomref36_Split.is _ _ _ _ _ _ _ _ ) (transomref36_Split.envok _ _ _ _ _ _ _ _  ) (transomref36_Split.segs_ok k) rfl ?_
  intro tvs blks res h
  simp only [ct_transomref36_Split] at h
  split at h
  · refine (transomref36_Split.ev  (transomref36_Split.s0 k) (transomref36_Split.s1 k) (transomref36_Split.s2 k) (transomref36_Split.s3 k) (transomref36_Split.s4 k) (transomref36_Split.s5 k) (transomref36_Split.s6 k) (transomref36_Split.s7 k) _ ).trans ?_
    rw [transomref36_Split.c_bind]
    exact h
  · simp at h
end Go.Proofs.Ytchlbajnmhffpaa.Aev
