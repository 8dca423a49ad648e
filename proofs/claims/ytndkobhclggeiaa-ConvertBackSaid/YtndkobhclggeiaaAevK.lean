/- AEV: each operation does what the evaluator says (5). -/
import Derived.Test.YtndkobhclggeiaaAevJ
namespace Go.Proofs.Ytndkobhclggeiaa.Aev
set_option linter.unusedVariables false
set_option linter.unusedSimpArgs false
open Go

section
variable {P : Program} {sg : FuncId → Option (Nat × List Nat)} {fresh : Nat} {X : Cx} {w : World} {S : Nat → Prop} {ρ : Nat → Option Value} {H : Nat → Option Nat} {N : Nat} {st : St} {a : Act} {o : Oper} {x : Out} {lg lg' : List Loc}

theorem rep_d_i {k : IntKind} {n : Int} : RepTV w S ρ (.v (.one (.d (.int k) n))) (.int k n) := by simp [RepTV, RepVV, RepAV, Rd]
theorem rep_d_s {s : ByteArray} : RepTV w S ρ (.v (.one (.d .str s))) (.string s) := by simp [RepTV, RepVV, RepAV, Rd]
theorem rep_d_b {b : Bool} : RepTV w S ρ (.v (.one (.d .bool b))) (.bool b) := by simp [RepTV, RepVV, RepAV, Rd]

theorem does_binOp {op : BinOp} {t t' : TypeId} {y z : Operand} (ho : o.op = .binOp op t y z t') (h : (opA P sg fresh o).run st lg = some (.out x, lg')) (hR : Rep X w S ρ H N st a) : Does P X N st a w S ρ (execOp a.eval o) x := by
  simp only [opA, ho] at h
  obtain ⟨yv, lg1, h1, h⟩ := run_bind_some h
  obtain ⟨zv, lg2, h2, h⟩ := run_bind_some h
  have hy := opd_rep hR h1
  have hz := opd_rep hR h2
  simp only at h hy hz
  split at h
  · rename_i k p k' q _e
    have hy := rep_i hy
    have hz := rep_i hz
    have hg : (eqGuard op t y z (.int k p) (.int k' q)).run P w = .ok () w := eqGuard_one (.inl ⟨k, p, rfl⟩)
    have fin : ∀ v tv, (Go.binOp op t (.int k p) (.int k' q)).run P w = .ok v w → RepTV w S ρ tv v → Does P X N st a w S ρ (execOp a.eval o) { tv := tv } := fun v tv hv hr =>
      Does.value hR (by simp [execOp, ho, hy, hz, hg, hv]) hr
    split at h
    · obtain ⟨_, lg3, h3, h⟩ := run_bind_some h
      have hne : q ≠ 0 := by simpa using run_guard h3
      split at h
      · rename_i e; subst e
        obtain rfl := outA_eq h
        exact fin _ _ (by simp [Go.binOp, Op.intDiv, hne]) rep_d_i
      · exact (run_fail h).elim
    · obtain ⟨_, lg3, h3, h⟩ := run_bind_some h
      have hne : q ≠ 0 := by simpa using run_guard h3
      split at h
      · rename_i e; subst e
        obtain rfl := outA_eq h
        exact fin _ _ (by simp [Go.binOp, Op.intDiv, hne]) rep_d_i
      · exact (run_fail h).elim
    · obtain ⟨_, lg3, h3, h⟩ := run_bind_some h
      have hne : 0 ≤ q := by simpa using run_guard h3
      obtain rfl := outA_eq h
      have hlt : ¬ (q : Int) < 0 := Int.not_lt.mpr hne
      exact fin _ _ (by simp only [Go.binOp, Op.shift]; rw [if_neg hlt]; rfl) rep_d_i
    · obtain ⟨_, lg3, h3, h⟩ := run_bind_some h
      have hne : 0 ≤ q := by simpa using run_guard h3
      obtain rfl := outA_eq h
      have hlt : ¬ (q : Int) < 0 := Int.not_lt.mpr hne
      exact fin _ _ (by simp only [Go.binOp, Op.shift]; rw [if_neg hlt]; rfl) rep_d_i
    · obtain ⟨c, lg3, h3, h⟩ := run_bind_some h
      obtain ⟨v, hs, hv⟩ := semV_inv h3
      obtain rfl := outA_eq h
      exact fin v _ (by rw [hs]; rfl) (ofValue_rep hv)
  · rename_i p q _e
    have hy := rep_s hy
    have hz := rep_s hz
    have hg : (eqGuard op t y z (.string p) (.string q)).run P w = .ok () w := eqGuard_one (.inr (.inl ⟨p, rfl⟩))
    have fin : ∀ v tv, (Op.stringOp op p q).run P w = .ok v w → RepTV w S ρ tv v → Does P X N st a w S ρ (execOp a.eval o) { tv := tv } := fun v tv hv hr =>
      Does.value hR (by
        have hb : (Go.binOp op t (.string p) (.string q)) = Op.stringOp op p q := by cases op <;> rfl
        simp [execOp, ho, hy, hz, hg, hb, hv]) hr
    split at h
    · obtain ⟨_, lg3, h3, h⟩ := run_bind_some h
      have hne : p.size ≤ 4611686018427387903 ∧ q.size ≤ 4611686018427387903 := by simpa using run_guard h3
      obtain rfl := outA_eq h
      exact fin (.string (p ++ q)) _ (by
        have : ¬ ((p.size + q.size : Nat) : Int) > IntKind.i64.max := by
          have : IntKind.i64.max = 9223372036854775807 := by decide
          omega
        simp only [Op.stringOp]
        rw [if_neg this]; rfl) rep_d_s
    · obtain rfl := outA_eq h
      exact fin _ _ (by simp [Op.stringOp]) rep_d_b
    · obtain rfl := outA_eq h
      exact fin _ _ (by simp [Op.stringOp]) rep_d_b
    · obtain ⟨c, lg3, h3, h⟩ := run_bind_some h
      obtain ⟨v, hs, hv⟩ := semV_inv h3
      obtain rfl := outA_eq h
      exact fin v _ (by rw [hs]; rfl) (ofValue_rep hv)
  · rename_i p q _e
    have hy := rep_b hy
    have hz := rep_b hz
    have hg : (eqGuard op t y z (.bool p) (.bool q)).run P w = .ok () w := eqGuard_one (.inr (.inr ⟨p, rfl⟩))
    split at h
    · rename_i hu
      have he : (Op.equal t (.bool p) (.bool q)).run P w = .ok (p == q) w := by
        have key : ∀ D, (Op.equalIn (D + 1) t (.bool p) (.bool q)).run P w = .ok (p == q) w := fun D => by simp [Op.equalIn, underlying_run hu]
        exact key 9999
      split at h
      · obtain rfl := outA_eq h
        exact Does.value hR (by simp [execOp, ho, hy, hz, hg, Go.binOp, he]) rep_d_b
      · obtain rfl := outA_eq h
        exact Does.value hR (by simp [execOp, ho, hy, hz, hg, Go.binOp, he]) rep_d_b
      · exact (run_fail h).elim
    · exact (run_fail h).elim
  · rename_i p q _e
    obtain ⟨c, lg3, h3, h⟩ := run_bind_some h
    obtain ⟨v, hs, hv⟩ := semV_inv h3
    obtain rfl := outA_eq h
    have hy : a.eval y = .float .f64 p := by have hy : [a.eval y] = [Value.float .f64 p] := hy; simpa using hy
    have hz : a.eval z = .float .f64 q := by have hz : [a.eval z] = [Value.float .f64 q] := hz; simpa using hz
    have hg : (eqGuard op t y z (.float .f64 p) (.float .f64 q)).run P w = .ok () w := by
      unfold eqGuard
      by_cases h : op matches .eql | .neq <;> simp [h]
    have hop : (Go.binOp op t (.float .f64 p) (.float .f64 q)).run P w = .ok v w := by
      cases op <;> first | (simp only [Op.floatCmp] at hs; cases hs; done) | (simp only [Go.binOp]; simp [hs])
    exact Does.value hR (by simp [execOp, ho, hy, hz, hg, hop]) (ofValue_rep hv)
  · rename_i xs ys _e
    split at h
    · exact (run_fail h).elim
    · rename_i hgt
      split at h
      · rename_i n b hq hb
        obtain ⟨us, hus, hxs⟩ := hy
        obtain ⟨vs, hvs, hys⟩ := hz
        have hg : (eqGuard op t y z (.agg us) (.agg vs)).run P w = .ok () w := by
          unfold eqGuard
          by_cases h : op matches .eql | .neq <;> simp [h, hgt]
        have he : (Op.equal t (.agg us) (.agg vs)).run P w = .ok b w :=
          equalIn_cells (S := S) (ρ := ρ) hb (fun _ => ⟨us, vs, rfl, rfl, hxs, hys⟩) (fun e => by rw [hq] at e; simp at e) ⟨_, hq⟩ Op.maxDepth (by decide)
        split at h
        · obtain rfl := outA_eq h
          exact Does.value hR (by simp [execOp, ho, hus, hvs, hg, Go.binOp, he]) rep_d_b
        · obtain rfl := outA_eq h
          exact Does.value hR (by simp [execOp, ho, hus, hvs, hg, Go.binOp, he]) rep_d_b
        · exact (run_fail h).elim
      · exact (run_fail h).elim
  · exact (run_fail h).elim


/-- A new block that is settled at once. -/
theorem Mem.allocS {blk : Nat → Option (Option Blk)} {w' : World} (h : Mem X w S ρ H blk) (hsz : w'.heap.size = w.heap.size + 1) (hk : ∀ k, k < w.heap.size → w'.heap[k]? = w.heap[k]?) (ho : w'.os = w.os) (ht : w'.tape = w.tape) (hp : w'.output = w.output) :
    Mem X w' (fun b => S b ∨ b = w.heap.size) ρ H blk ∧ More w w' S (fun b => S b ∨ b = w.heap.size) ρ ρ := by
  have hS : ∀ b, S b → w'.heap[b]? = w.heap[b]? := fun b hb => hk b (h.old b hb)
  refine ⟨?_, fun _ x => .inl x, hS, fun _ _ x => x⟩
  refine { rep := fun n B hB => (h.rep n B hB).mono (fun _ x => .inl x) hS (fun _ _ x => x) (fun b hb => hk b ((h.rep n B hB).home_lt hb)), sep := h.sep, apart := ?_, homes := h.homes, old := ?_, never := h.never, s0 := fun b hb => .inl (h.s0 b hb), smine := ?_, names := h.names, os := ho.trans h.os, tape := ht.trans h.tape, output := hp.trans h.output, size := by have := h.size; omega, same := fun b hb hm => (hk b (Nat.lt_of_lt_of_le hb h.size)).trans (h.same b hb hm) }
  · intro n B b hB hb hs
    rcases hs with hs | rfl
    · exact h.apart n B b hB hb hs
    · have := (h.rep n B hB).home_lt hb; omega
  · intro b hb
    rcases hb with hb | rfl
    · have := h.old b hb; omega
    · omega
  · intro b hb
    rcases hb with hb | rfl
    · exact h.smine b hb
    · exact .inr (.inr h.size)

theorem bytes_fold : ∀ (ns : List Int) (s : ByteArray), ns.foldl (fun r n => r.push (UInt8.ofNat n.toNat)) s = ⟨s.data ++ (ns.map fun n => UInt8.ofNat n.toNat).toArray⟩
  | [], s => by simp
  | n :: ns, s => by
    simp only [List.foldl_cons, bytes_fold ns, List.map_cons]
    congr 1
    apply Array.ext'
    simp [ByteArray.push]

theorem does_convert {s t : TypeId} {y : Operand} (ho : o.op = .convert s t y) (h : (opA P sg fresh o).run st lg = some (.out x, lg')) (hR : Rep X w S ρ H N st a) : Does P X N st a w S ρ (execOp a.eval o) x := by
  simp only [opA, ho] at h
  obtain ⟨yv, lg1, h1, h⟩ := run_bind_some h
  have hy := opd_rep hR h1
  simp only at h hy
  split at h
  · rename_i k n
    split at h
    · rename_i u k' hs ht
      obtain rfl := outA_eq h
      have hy := rep_i hy
      exact Does.value hR (by simp [execOp, ho, hy, Go.convert, underlying_run hs, underlying_run ht, Conv.intToInt]) rep_d_i
    · rename_i u hs ht
      obtain rfl := outA_eq h
      have hy := rep_i hy
      exact Does.value hR (v := .float .f64 (FloatKind.f64.nearest n)) (by simp [execOp, ho, hy, Go.convert, underlying_run hs, underlying_run ht, Conv.intToFloat]) (by simp [RepTV, RepVV, RepAV, Rd])
    · exact (run_fail h).elim
  · rename_i b
    have hy : a.eval y = .float .f64 b := by have hy : [a.eval y] = [Value.float .f64 b] := hy; simpa using hy
    split at h
    · rename_i u k hs ht
      obtain ⟨_, lg2, h2, h⟩ := run_bind_some h
      have hg := run_guard h2
      obtain rfl := outA_eq h
      simp only [Bool.and_eq_true, decide_eq_true_eq] at hg
      obtain ⟨⟨g1, g2⟩, g3⟩ := hg
      cases hn : (FloatKind.f64.decode b).toInt .zero with
      | none => rw [hn] at g1; simp at g1
      | some n =>
        rw [hn] at g2 g3
        simp only [Option.getD_some] at g2 g3
        exact Does.value hR (v := .int k n) (by simp [execOp, ho, hy, Go.convert, underlying_run hs, underlying_run ht, Conv.floatToInt, hn, g2, g3]) (by simp [rep_d_i])
    · exact (run_fail h).elim
  · rename_i z
    have hy := rep_s hy
    split at h
    · rename_i u hs ht
      obtain rfl := outA_eq h
      exact Does.value hR (by simp [execOp, ho, hy, Go.convert, underlying_run hs, underlying_run ht]) rep_d_s
    · rename_i u e hs ht
      split at h
      · rename_i he
        obtain rfl := outA_eq h
        have hrun := Lib.run_convert_string_bytes (P := P) w s t e z hs ht he
        obtain ⟨hm, hmore⟩ := hR.mem.allocS (w' := Lib.bytesWorld w e z) (Lib.bytesWorld_size w e z) (fun k hk => Lib.bytesWorld_at_old w e z k hk) rfl rfl rfl
        refine ⟨_, _, _, ρ, H, .inl (by simp [execOp, ho, hy, hrun]; rfl), hR.of_mem hm hmore rfl, ?_, hmore⟩
        refine ⟨_, _, _, rfl, by simp, ?_, fun a ha _ => by simp at ha; rw [← ha], by simp, fun hx => ⟨_, rfl, .inr rfl, fun i hi => ?_⟩⟩
        · simp [grownCap, Question.cut]
        · simp at hi
          have hi' : i < z.size := hi
          refine ⟨[.int .u8 (z.data.toList[i]'(by simpa using hi)).toNat], ⟨_, _, _, Lib.bytesWorld_at_new w e z, ?_, ?_⟩, by simp [Rd]⟩
          · simp [Lib.bytesCells, Ty.size]
            have : z.data.size = z.size := rfl
            omega
          · simp only [Ty.size, Nat.mul_one, Nat.zero_add]
            have hlen : i < (Lib.bytesCells w e z).toList.length := by
              simp [Lib.bytesCells]
              have : z.data.size = z.size := rfl
              omega
            rw [List.drop_eq_getElem_cons hlen]
            simp [Lib.bytesCells, Array.getElem_append, hi]
      · exact (run_fail h).elim
    · exact (run_fail h).elim
  · split at h
    · rename_i e hs ht
      split at h
      · rename_i he
        obtain ⟨⟨xs, wr⟩, lg2, h2, h⟩ := run_bind_some h
        have := run_pure' h; simp at this; obtain ⟨rfl, _⟩ := this
        obtain ⟨hts, hrd⟩ := rowsA_spec h2 hR.mem
        simp only at hts hrd
        obtain ⟨S1, H1, hm1, hmore1, hset1⟩ := settle_all _ hR.mem hts.all
        obtain ⟨base, cap, news, hv, hcap, hrows, hn, hp⟩ := rd_rows (hrd hmore1.s hset1 hy)
        have hnews : news = xs.map (Value.int .u8) := by
          have hl := hrows.1
          apply List.ext_getElem
          · simp [hl, Ty.size]
          · intro i h1' h2'
            have hi : i < xs.length := by simpa using h2'
            have := hrows.2 i hi
            simp [Ty.size, Rd] at this
            have := congrArg (fun l => l[0]?) this
            simpa [h1'] using this
        have hc : (Conv.bytesToString (.slice base xs.length cap)).run P w = .ok (.string ⟨(xs.map fun (n : Int) => UInt8.ofNat n.toNat).toArray⟩) w := by
          cases base with
          | none =>
            obtain ⟨e1, _⟩ := hn rfl
            subst e1
            simp [Conv.bytesToString]
            rfl
          | some p =>
            have hl := run_loadCells_list (P := P) w p news (hp p rfl).2
            rw [hnews] at hl
            have hb := run_bytesToString (P := P) (w := w) p xs.length cap xs (by simpa using hl)
            rw [hb, bytes_fold]
            simp
        have hcv := run_convert_bytes_string (P := P) w s t e base xs.length cap hs he ht
        exact Does.settled hR hts (by simp [execOp, ho, hv, hcv, hc]) (fun S' hS hset => rep_d_s)
      · exact (run_fail h).elim
    · exact (run_fail h).elim

theorem lenA_spec {y : TV} {v : Value} {r : Int × List Loc} (h : (lenA y).run st lg = some r) (hR : Rep X w S ρ H N st a) (hy : RepTV w S ρ y v) :
    ∃ base len cap, v = .slice base len cap ∧ r.1 = len := by
  unfold lenA at h
  split at h
  · have := run_pure' h; subst this
    obtain ⟨base, len, cap, hv, e1, _⟩ := hy
    simp at hv
    exact ⟨base, len, cap, hv, by rw [e1]⟩
  · have := run_pure' h; subst this
    obtain ⟨rfl, _⟩ := hy
    exact ⟨_, _, _, rfl, rfl⟩
  · rename_i n
    obtain ⟨B, lg1, h1, h⟩ := run_bind_some h
    have hb := run_rB h1
    simp only at h hb
    obtain ⟨hρ, base, len, cap, rfl⟩ := hy
    split at h
    · have := run_pure h; subst this
      obtain ⟨v', h2, h3⟩ := hR.mem.rep n _ hb
      rw [hρ] at h2; simp at h2; subst h2
      rcases h3 with ⟨b, _, l, c, vs, e, q, q1, _⟩ | ⟨_, _, _, base', q⟩
      · simp at q; exact ⟨base, len, cap, rfl, by rw [q.2.1, q1]⟩
      · simp at q; exact ⟨base, len, cap, rfl, by rw [q.2.1]⟩
    · have := run_pure h; subst this
      obtain ⟨v', h2, _, h3⟩ := hR.mem.rep n _ hb
      rw [hρ] at h2; simp at h2; subst h2
      obtain ⟨base', l, c, q, q1, _⟩ := h3
      simp at q; exact ⟨base, len, cap, rfl, by rw [q.2.1, q1]⟩
    · exact (run_fail h).elim
  · exact (run_fail h).elim

theorem asS_inv {x : TV} {r : ByteArray × List Loc} (h : (asS x).run st lg = some r) : x = .v (.one (.d .str r.1)) := by
  unfold asS at h
  split at h
  · have := run_pure' h; subst this; rfl
  · exact (run_fail h).elim

theorem toList1 {α : Type} {xs : Array α} {a : α} (h : xs.toList = [a]) : xs = #[a] := Array.ext' (by simpa using h)
theorem toList2 {α : Type} {xs : Array α} {a b : α} (h : xs.toList = [a, b]) : xs = #[a, b] := Array.ext' (by simpa using h)

theorem args_rep (hR : Rep X w S ρ H N st a) {as : Array Operand} {tvs : List TV} (h : (as.toList.mapM opd).run st lg = some (tvs, lg')) : All2 (RepTV w S ρ) tvs (as.map a.eval).toList := by
  rw [Array.toList_map]
  have hc := run_mapM h
  simp only at hc
  clear h
  generalize as.toList = l at hc
  induction l generalizing tvs with
  | nil => rw [hc.nil_left]; trivial
  | cons y l ih =>
    obtain ⟨p, ps, rfl, ⟨lg2, lg3, h2⟩, hc⟩ := hc.cons_left
    exact ⟨opd_rep hR h2, ih hc⟩

theorem does_callB {c : Call} (ho : o.op = .call c) {b : Builtin} (hb : c.callee = .builtin b) (h : (opA P sg fresh o).run st lg = some (.out x, lg')) (hR : Rep X w S ρ H N st a) : Does P X N st a w S ρ (execOp a.eval o) x := by
  simp only [opA, ho] at h
  obtain ⟨args, lg1, h1, h⟩ := run_bind_some h
  have hargs := args_rep hR h1
  simp only [callA, hb] at h
  split at h
  · rename_i heq
    cases heq
    split at h
    · rename_i y t hat
      obtain ⟨v, m, hv, hy, hm⟩ := hargs.cons_left
      have hm := hm.nil_left
      subst hm
      have hv := toList1 hv
      have hat := toList1 hat
      split at h
      · rename_i hu
        obtain ⟨s, lg2, h2, h⟩ := run_bind_some h
        obtain rfl := outA_eq h
        rw [asS_inv h2] at hy
        have hs := rep_s hy
        subst hs
        exact Does.value hR (v := .int .i64 (s.size : Int)) (by simp [execOp, ho, resolve, hb, invoke, builtin, hv, hat, Builtin.len_, underlying_run hu, goInt]) rep_d_i
      · rename_i e hu
        obtain ⟨n, lg2, h2, h⟩ := run_bind_some h
        obtain rfl := outA_eq h
        obtain ⟨base, len, cap, rfl, hn⟩ := lenA_spec h2 hR hy
        simp only at hn
        exact Does.value hR (v := .int .i64 n) (by simp [execOp, ho, resolve, hb, invoke, builtin, hv, hat, Builtin.len_, underlying_run hu, goInt, hn]) rep_d_i
      · exact (run_fail h).elim
    · exact (run_fail h).elim
  · rename_i heq
    cases heq
    split at h
    · rename_i k p k' q
      obtain ⟨cc, lg2, h2, h⟩ := run_bind_some h
      obtain ⟨vv, hs, hvv⟩ := semV_inv h2
      obtain rfl := outA_eq h
      obtain ⟨v, m, hv, hy, hm⟩ := hargs.cons_left
      obtain ⟨v2, m, rfl, hy2, hm⟩ := hm.cons_left
      have hm := hm.nil_left
      subst hm
      have hv := toList2 hv
      have e1 := rep_i hy
      have e2 := rep_i hy2
      subst e1; subst e2
      have hs' : Builtin.min_ c.argTypes o.type #[.int k p, .int k' q] = .pure vv := hs
      exact Does.value hR (v := vv) (by simp [execOp, ho, resolve, hb, invoke, builtin, hv, hs']) (ofValue_rep hvv)
    · exact (run_fail h).elim
  · rename_i heq
    cases heq
    split at h
    · rename_i k p k' q
      obtain ⟨cc, lg2, h2, h⟩ := run_bind_some h
      obtain ⟨vv, hs, hvv⟩ := semV_inv h2
      obtain rfl := outA_eq h
      obtain ⟨v, m, hv, hy, hm⟩ := hargs.cons_left
      obtain ⟨v2, m, rfl, hy2, hm⟩ := hm.cons_left
      have hm := hm.nil_left
      subst hm
      have hv := toList2 hv
      have e1 := rep_i hy
      have e2 := rep_i hy2
      subst e1; subst e2
      have hs' : Builtin.max_ c.argTypes o.type #[.int k p, .int k' q] = .pure vv := hs
      exact Does.value hR (v := vv) (by simp [execOp, ho, resolve, hb, invoke, builtin, hv, hs']) (ofValue_rep hvv)
    · exact (run_fail h).elim
  · rename_i heq
    cases heq
    split at h
    · rename_i s y ty tx hat
      obtain ⟨v, m, hv, hs, hm⟩ := hargs.cons_left
      obtain ⟨v2, m, rfl, hy, hm⟩ := hm.cons_left
      have hm := hm.nil_left
      subst hm
      have hv := toList2 hv
      have hat := toList2 hat
      refine appendA_does (rt := o.type) h hR hs hy (fun v' w' hr => ?_)
      simp [execOp, ho, resolve, hb, invoke, builtin, hv, hat, hr]
    · exact (run_fail h).elim
  · exact (run_fail h).elim
end
end Go.Proofs.Ytndkobhclggeiaa.Aev
