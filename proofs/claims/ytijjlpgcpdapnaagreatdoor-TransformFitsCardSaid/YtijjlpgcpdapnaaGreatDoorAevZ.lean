import Derived.Test.YtijjlpgcpdapnaaGreatDoorAevW
/- AEV: forms: what a function, or a segment of one, is handed, with places for the data; contracts and segments out of forms. -/
namespace Go.Proofs.YtijjlpgcpdapnaaGreatDoor.Aev
open Go
set_option linter.unusedVariables false
theorem L0.{u} {α : Type u} {p : α → Prop} : ∀ x ∈ ([] : List α), p x := fun _ h => by cases h
theorem Lc.{u} {α : Type u} {p : α → Prop} {a : α} {l : List α} (h : p a) (t : ∀ x ∈ l, p x) : ∀ x ∈ a :: l, p x := List.forall_mem_cons.2 ⟨h, t⟩
inductive Ak where
 | nilS | nilP | nilF | nilI
 | ptr (n o : Nat)
 | own (n : Nat)
 | arr (n m : Nat)
 | fn (f : Nat) (caps : List (Nat × Nat))
 | mp (n : Nat)
 | slb (n m : Nat)
 deriving DecidableEq
def Ak.av : Ak → AV
 | .nilS => .raw (.slice none 0 0)
 | .nilP => .raw (.pointer none)
 | .nilF => .raw .nilFunc
 | .nilI => .raw .nilIface
 | .ptr n o => .ptr n o
 | .own n => .own n
 | .arr n m => .arr n m
 | .fn f c => .fn f c
 | .mp n => .mp n
 | .slb n m => .slb n m
def akOf : AV → Option Ak
 | .raw (.slice none 0 0) => some .nilS
 | .raw (.pointer none) => some .nilP
 | .raw .nilFunc => some .nilF
 | .raw .nilIface => some .nilI
 | .ptr n o => some (.ptr n o)
 | .own n => some (.own n)
 | .arr n m => some (.arr n m)
 | .fn f c => some (.fn f c)
 | .mp n => some (.mp n)
 | .slb n m => some (.slb n m)
 | _ => none
theorem akOf_spec {a : AV} {k : Ak} (h : akOf a = some k) : a = k.av := by
 unfold akOf at h
 split at h <;> first | (cases h; rfl) | cases h
inductive Ah where
 | g (T : Ty)
 | c (k : Ak)
 | i (t : TypeId) (ag : Bool) (T : Ty)
abbrev Ah.den : Ah → Type
 | .g T => T.den
 | .c _ => Unit
 | .i _ _ T => T.den
def Ah.w : (h : Ah) → h.den → List AV
 | .g T, x => flat T x
 | .c k, _ => [k.av]
 | .i t ag T, x => [.ifc t ag T x]
def Ah.w1 : (h : Ah) → h.den → AV
 | .g T, x => .d T x
 | .c k, _ => k.av
 | .i t ag T, x => .ifc t ag T x
def rd1 {γ : Type} (T : Ty) (cs : List AV) (k : T.den → List AV → Option γ) : Option γ :=
 match cs with
 | .d u x :: cs => if h : u = T then k (castD h x) cs else none
 | _ => none
theorem rd1_spec {γ : Type} {T : Ty} {cs : List AV} {k : T.den → List AV → Option γ} {r : γ} (h : rd1 T cs k = some r) : ∃ x l, cs = .d T x :: l ∧ k x l = some r := by
 unfold rd1 at h
 split at h
 ·split at h
  ·rename_i e; subst e; exact ⟨_, _, rfl, h⟩
  ·cases h
 ·cases h
theorem rd1_w {γ : Type} (T : Ty) (x : T.den) (l : List AV) (k : T.den → List AV → Option γ) : rd1 T (.d T x :: l) k = k x l := by
 unfold rd1
 simp only [dite_true, castD_self]
def unflat {γ : Type} : (T : Ty) → List AV → (T.den → List AV → Option γ) → Option γ
 | .unit, cs, k => k () cs
 | .pair a b, cs, k => unflat a cs fun x cs => unflat b cs fun y cs => k (x, y) cs
 | .bool, cs, k => rd1 .bool cs k
 | .int i, cs, k => rd1 (.int i) cs k
 | .str, cs, k => rd1 .str cs k
 | .flt, cs, k => rd1 .flt cs k
 | .sl e, cs, k => rd1 (.sl e) cs k
theorem unflat_spec {γ : Type} : ∀ (T : Ty) {cs : List AV} {k : T.den → List AV → Option γ} {r : γ}, unflat T cs k = some r → ∃ x l, cs = flat T x ++ l ∧ k x l = some r
 | .unit, cs, k, r, h => ⟨(), cs, rfl, h⟩
 | .pair a b, cs, k, r, h => by
  obtain ⟨x, l, rfl, h1⟩ := unflat_spec a (show unflat a cs (fun x cs => unflat b cs fun y cs => k (x, y) cs) = some r from h)
  obtain ⟨y, l, rfl, h2⟩ := unflat_spec b h1
  exact ⟨(x, y), l, (List.append_assoc _ _ _).symm, h2⟩
 | .bool, cs, k, r, h => rd1_spec h
 | .int i, cs, k, r, h => rd1_spec h
 | .str, cs, k, r, h => rd1_spec h
 | .flt, cs, k, r, h => rd1_spec h
 | .sl e, cs, k, r, h => rd1_spec h
theorem unflat_w {γ : Type} : ∀ (T : Ty) (x : T.den) (l : List AV) (k : T.den → List AV → Option γ), unflat T (flat T x ++ l) k = k x l
 | .unit, x, l, k => rfl
 | .pair a b, x, l, k => by
  show unflat a ((flat a x.1 ++ flat b x.2) ++ l) _ = _
  rw [List.append_assoc, unflat_w a, unflat_w b]
 | .bool, x, l, k => rd1_w .bool x l k
 | .int i, x, l, k => rd1_w (.int i) x l k
 | .str, x, l, k => rd1_w .str x l k
 | .flt, x, l, k => rd1_w .flt x l k
 | .sl e, x, l, k => rd1_w (.sl e) x l k
theorem akOf_av (k : Ak) : akOf k.av = some k := by cases k <;> rfl
def Ah.r {γ : Type} : (h : Ah) → List AV → (h.den → List AV → Option γ) → Option γ
 | .g T, cs, k => unflat T cs k
 | .c q, cs, k => match cs with
  | a :: cs => if akOf a = some q then k () cs else none
  | [] => none
 | .i t ag T, cs, k => match cs with
  | .ifc t' ag' u x :: cs => if t' = t ∧ ag' = ag then (if h : u = T then k (castD h x) cs else none) else none
  | _ => none
theorem Ah.r_spec {γ : Type} : ∀ (a : Ah) {cs : List AV} {k : a.den → List AV → Option γ} {r : γ}, a.r cs k = some r → ∃ x l, cs = a.w x ++ l ∧ k x l = some r
 | .g T, cs, k, r, h => unflat_spec T h
 | .c q, cs, k, r, h => by
  simp only [Ah.r] at h
  split at h
  ·split at h
   ·rename_i e; rw [akOf_spec e]; exact ⟨(), _, rfl, h⟩
   ·cases h
  ·cases h
 | .i t ag T, cs, k, r, h => by
  simp only [Ah.r] at h
  split at h
  ·split at h
   ·rename_i e
    obtain ⟨rfl, rfl⟩ := e
    split at h
    ·rename_i e; subst e; exact ⟨_, _, rfl, h⟩
    ·cases h
   ·cases h
  ·cases h
theorem Ah.r_w {γ : Type} : ∀ (a : Ah) (x : a.den) (l : List AV) (k : a.den → List AV → Option γ), a.r (a.w x ++ l) k = k x l
 | .g T, x, l, k => unflat_w T x l k
 | .c q, x, l, k => by
  show (if akOf q.av = some q then k () l else none) = _
  rw [akOf_av, if_pos rfl]
 | .i t ag T, x, l, k => by
  show (if t = t ∧ ag = ag then (if h : T = T then k (castD h x) l else none) else none) = _
  rw [if_pos ⟨rfl, rfl⟩, dif_pos rfl]; rfl
def Ah.r1 {γ : Type} : (h : Ah) → AV → (h.den → Option γ) → Option γ
 | .g T, a, k => rd1 T [a] fun x _ => k x
 | .c q, a, k => if akOf a = some q then k () else none
 | .i t ag T, a, k => match a with
  | .ifc t' ag' u x => if t' = t ∧ ag' = ag then (if h : u = T then k (castD h x) else none) else none
  | _ => none
theorem Ah.r1_spec {γ : Type} : ∀ (a : Ah) {c : AV} {k : a.den → Option γ} {r : γ}, a.r1 c k = some r → ∃ x, c = a.w1 x ∧ k x = some r
 | .g T, z, k, r, h => by
  obtain ⟨x, l, e, h⟩ := rd1_spec (show rd1 T [z] (fun x _ => k x) = some r from h)
  simp only [List.cons.injEq] at e
  exact ⟨x, e.1, h⟩
 | .c q, z, k, r, h => by
  simp only [Ah.r1] at h
  split at h
  ·rename_i e; exact ⟨(), akOf_spec e, h⟩
  ·cases h
 | .i t ag T, z, k, r, h => by
  simp only [Ah.r1] at h
  split at h
  ·split at h
   ·rename_i e
    obtain ⟨rfl, rfl⟩ := e
    split at h
    ·rename_i e; subst e; exact ⟨_, rfl, h⟩
    ·cases h
   ·cases h
  ·cases h
theorem Ah.r1_w {γ : Type} : ∀ (a : Ah) (x : a.den) (k : a.den → Option γ), a.r1 (a.w1 x) k = k x
 | .g T, x, k => rd1_w T x [] fun x _ => k x
 | .c q, x, k => by
  show (if akOf q.av = some q then k () else none) = _
  rw [akOf_av, if_pos rfl]
 | .i t ag T, x, k => by
  show (if t = t ∧ ag = ag then (if h : T = T then k (castD h x) else none) else none) = _
  rw [if_pos ⟨rfl, rfl⟩, dif_pos rfl]; rfl
abbrev DAs : List Ah → Type
 | [] => Unit
 | h :: t => h.den × DAs t
def wAs : (hs : List Ah) → DAs hs → List AV
 | [], _ => []
 | h :: t, x => h.w x.1 ++ wAs t x.2
def rAs {γ : Type} : (hs : List Ah) → List AV → (DAs hs → Option γ) → Option γ
 | [], cs, k => match cs with | [] => k () | _ => none
 | h :: t, cs, k => h.r cs fun x cs => rAs t cs fun y => k (x, y)
theorem rAs_spec {γ : Type} : ∀ (hs : List Ah) {cs : List AV} {k : DAs hs → Option γ} {r : γ}, rAs hs cs k = some r → ∃ x, cs = wAs hs x ∧ k x = some r
 | [], cs, k, r, h => by
  unfold rAs at h
  split at h
  ·exact ⟨(), rfl, h⟩
  ·cases h
 | a :: t, cs, k, r, h => by
  obtain ⟨x, l, rfl, h1⟩ := Ah.r_spec a (show a.r cs (fun x cs => rAs t cs fun y => k (x, y)) = some r from h)
  obtain ⟨y, rfl, h2⟩ := rAs_spec t h1
  exact ⟨(x, y), rfl, h2⟩
theorem rAs_w {γ : Type} : ∀ (hs : List Ah) (x : DAs hs) (k : DAs hs → Option γ), rAs hs (wAs hs x) k = k x
 | [], x, k => rfl
 | a :: t, x, k => by
  show a.r (a.w x.1 ++ wAs t x.2) _ = _
  rw [Ah.r_w, rAs_w t]
inductive Vh where
 | one (h : Ah)
 | agg (hs : List Ah)
abbrev Vh.den : Vh → Type
 | .one h => h.den
 | .agg hs => DAs hs
def Vh.w : (h : Vh) → h.den → VV
 | .one h, x => .one (h.w1 x)
 | .agg hs, x => .agg (wAs hs x)
def Vh.r {γ : Type} : (h : Vh) → VV → (h.den → Option γ) → Option γ
 | .one h, v, k => match v with | .one a => h.r1 a k | _ => none
 | .agg hs, v, k => match v with | .agg cs => rAs hs cs k | _ => none
theorem Vh.r_spec {γ : Type} : ∀ (a : Vh) {c : VV} {k : a.den → Option γ} {r : γ}, a.r c k = some r → ∃ x, c = a.w x ∧ k x = some r
 | .one h, c, k, r, hr => by
  simp only [Vh.r] at hr
  split at hr
  ·obtain ⟨x, rfl, h⟩ := Ah.r1_spec h hr; exact ⟨x, rfl, h⟩
  ·cases hr
 | .agg hs, c, k, r, hr => by
  simp only [Vh.r] at hr
  split at hr
  ·obtain ⟨x, rfl, h⟩ := rAs_spec hs hr; exact ⟨x, rfl, h⟩
  ·cases hr
theorem Vh.r_w {γ : Type} : ∀ (a : Vh) (x : a.den) (k : a.den → Option γ), a.r (a.w x) k = k x
 | .one h, x, k => Ah.r1_w h x k
 | .agg hs, x, k => rAs_w hs x k
abbrev DVs : List Vh → Type
 | [] => Unit
 | h :: t => h.den × DVs t
def wVs : (hs : List Vh) → DVs hs → List VV
 | [], _ => []
 | h :: t, x => h.w x.1 :: wVs t x.2
def rVs {γ : Type} : (hs : List Vh) → List VV → (DVs hs → Option γ) → Option γ
 | [], cs, k => match cs with | [] => k () | _ => none
 | h :: t, cs, k => match cs with | c :: cs => h.r c fun x => rVs t cs fun y => k (x, y) | [] => none
theorem rVs_spec {γ : Type} : ∀ (hs : List Vh) {cs : List VV} {k : DVs hs → Option γ} {r : γ}, rVs hs cs k = some r → ∃ x, cs = wVs hs x ∧ k x = some r
 | [], cs, k, r, h => by
  unfold rVs at h
  split at h
  ·exact ⟨(), rfl, h⟩
  ·cases h
 | a :: t, cs, k, r, h => by
  unfold rVs at h
  split at h
  ·obtain ⟨x, rfl, h1⟩ := Vh.r_spec a h
   obtain ⟨y, rfl, h2⟩ := rVs_spec t h1
   exact ⟨(x, y), rfl, h2⟩
  ·cases h
theorem rVs_w {γ : Type} : ∀ (hs : List Vh) (x : DVs hs) (k : DVs hs → Option γ), rVs hs (wVs hs x) k = k x
 | [], x, k => rfl
 | a :: t, x, k => by
  show a.r (a.w x.1) _ = _
  rw [Vh.r_w, rVs_w t]
inductive Th where
 | v (h : Vh)
 | tup (hs : List Vh)
 | undef
abbrev Th.d (T : Ty) : Th := .v (.one (.g T))
abbrev Th.s (T : Ty) : Th := .v (.agg [.g T])
abbrev Th.k (k : Ak) : Th := .v (.one (.c k))
abbrev Th.den : Th → Type
 | .v h => h.den
 | .tup hs => DVs hs
 | .undef => Unit
def Th.w : (h : Th) → h.den → TV
 | .v h, x => .v (h.w x)
 | .tup hs, x => .tup (wVs hs x)
 | .undef, _ => .undef
def Th.r {γ : Type} : (h : Th) → TV → (h.den → Option γ) → Option γ
 | .v h, z, k => match z with | .v x => h.r x k | _ => none
 | .tup hs, z, k => match z with | .tup xs => rVs hs xs k | _ => none
 | .undef, z, k => match z with | .undef => k () | _ => none
theorem Th.r_spec {γ : Type} : ∀ (a : Th) {c : TV} {k : a.den → Option γ} {r : γ}, a.r c k = some r → ∃ x, c = a.w x ∧ k x = some r
 | .v h, c, k, r, hr => by
  simp only [Th.r] at hr
  split at hr
  ·obtain ⟨x, rfl, h⟩ := Vh.r_spec h hr; exact ⟨x, rfl, h⟩
  ·cases hr
 | .tup hs, c, k, r, hr => by
  simp only [Th.r] at hr
  split at hr
  ·obtain ⟨x, rfl, h⟩ := rVs_spec hs hr; exact ⟨x, rfl, h⟩
  ·cases hr
 | .undef, c, k, r, hr => by
  simp only [Th.r] at hr
  split at hr
  ·exact ⟨(), rfl, hr⟩
  ·cases hr
theorem Th.r_w {γ : Type} : ∀ (a : Th) (x : a.den) (k : a.den → Option γ), a.r (a.w x) k = k x
 | .v h, x, k => Vh.r_w h x k
 | .tup hs, x, k => rVs_w hs x k
 | .undef, x, k => rfl
abbrev DTs : List Th → Type
 | [] => Unit
 | h :: t => h.den × DTs t
def wTs : (hs : List Th) → DTs hs → List TV
 | [], _ => []
 | h :: t, x => h.w x.1 :: wTs t x.2
theorem wTs_len : ∀ (hs : List Th) (x : DTs hs), (wTs hs x).length = hs.length
 | [], _ => rfl
 | _ :: t, x => congrArg (· + 1) (wTs_len t x.2)
def rTs {γ : Type} : (hs : List Th) → List TV → (DTs hs → Option γ) → Option γ
 | [], cs, k => match cs with | [] => k () | _ => none
 | h :: t, cs, k => match cs with | c :: cs => h.r c fun x => rTs t cs fun y => k (x, y) | [] => none
theorem rTs_spec {γ : Type} : ∀ (hs : List Th) {cs : List TV} {k : DTs hs → Option γ} {r : γ}, rTs hs cs k = some r → ∃ x, cs = wTs hs x ∧ k x = some r
 | [], cs, k, r, h => by
  unfold rTs at h
  split at h
  ·exact ⟨(), rfl, h⟩
  ·cases h
 | a :: t, cs, k, r, h => by
  unfold rTs at h
  split at h
  ·obtain ⟨x, rfl, h1⟩ := Th.r_spec a h
   obtain ⟨y, rfl, h2⟩ := rTs_spec t h1
   exact ⟨(x, y), rfl, h2⟩
  ·cases h
theorem rTs_w {γ : Type} : ∀ (hs : List Th) (x : DTs hs) (k : DTs hs → Option γ), rTs hs (wTs hs x) k = k x
 | [], x, k => rfl
 | a :: t, x, k => by
  show a.r (a.w x.1) _ = _
  rw [Th.r_w, rTs_w t]
inductive Bh where
 | none
 | own (T : Ty) (u : Bool)
 | settled (T : Ty)
 | box (hs : List Ah)
 | mp (kt et : Ty)
abbrev Bh.den : Bh → Type
 | .none => Unit
 | .own T _ => List T.den
 | .settled T => List T.den
 | .box hs => DAs hs
 | .mp kt et => List (kt.den × et.den)
def castM {k e k' e' : Ty} (h : k' = k ∧ e' = e) (x : List (k'.den × e'.den)) : List (k.den × e.den) := h.1 ▸ h.2 ▸ x
def Bh.w : (h : Bh) → h.den → Option Blk
 | .none, _ => .none
 | .own T u, x => some (.own T u x)
 | .settled T, x => some (.settled T x)
 | .box hs, x => some (.box (wAs hs x))
 | .mp kt et, x => some (.mp kt et x)
def Bh.r {γ : Type} : (h : Bh) → Option Blk → (h.den → Option γ) → Option γ
 | .none, b, k => match b with | .none => k () | _ => .none
 | .own T u, b, k => match b with | some (.own T' u' x) => if u' = u then (if h : T' = T then k (castD (congrArg Ty.sl h) x) else .none) else .none | _ => .none
 | .settled T, b, k => match b with | some (.settled T' x) => if h : T' = T then k (castD (congrArg Ty.sl h) x) else .none | _ => .none
 | .box hs, b, k => match b with | some (.box cs) => rAs hs cs k | _ => .none
 | .mp kt et, b, k => match b with | some (.mp k' e' x) => if h : k' = kt ∧ e' = et then k (castM h x) else .none | _ => .none
theorem Bh.r_spec {γ : Type} : ∀ (a : Bh) {c : Option Blk} {k : a.den → Option γ} {r : γ}, a.r c k = some r → ∃ x, c = a.w x ∧ k x = some r
 | .none, c, k, r, hr => by
  simp only [Bh.r] at hr
  split at hr
  ·exact ⟨(), rfl, hr⟩
  ·cases hr
 | .own T u, c, k, r, hr => by
  simp only [Bh.r] at hr
  split at hr
  ·split at hr
   ·rename_i e; subst e
    split at hr
    ·rename_i e; subst e; exact ⟨_, rfl, hr⟩
    ·cases hr
   ·cases hr
  ·cases hr
 | .settled T, c, k, r, hr => by
  simp only [Bh.r] at hr
  split at hr
  ·split at hr
   ·rename_i e; subst e; exact ⟨_, rfl, hr⟩
   ·cases hr
  ·cases hr
 | .box hs, c, k, r, hr => by
  simp only [Bh.r] at hr
  split at hr
  ·obtain ⟨x, rfl, h⟩ := rAs_spec hs hr; exact ⟨x, rfl, h⟩
  ·cases hr
 | .mp kt et, c, k, r, hr => by
  simp only [Bh.r] at hr
  split at hr
  ·split at hr
   ·rename_i e; obtain ⟨rfl, rfl⟩ := e; exact ⟨_, rfl, hr⟩
   ·cases hr
  ·cases hr
theorem Bh.r_w {γ : Type} : ∀ (a : Bh) (x : a.den) (k : a.den → Option γ), a.r (a.w x) k = k x
 | .none, x, k => rfl
 | .own T u, x, k => by
  show (if u = u then (if h : T = T then k (castD (congrArg Ty.sl h) x) else .none) else .none) = _
  rw [if_pos rfl, dif_pos rfl]; rfl
 | .settled T, x, k => by
  show (if h : T = T then k (castD (congrArg Ty.sl h) x) else .none) = _
  rw [dif_pos rfl]; rfl
 | .box hs, x, k => rAs_w hs x k
 | .mp kt et, x, k => by
  show (if h : kt = kt ∧ et = et then k (castM h x) else .none) = _
  rw [dif_pos ⟨rfl, rfl⟩]; rfl
abbrev DBs : List Bh → Type
 | [] => Unit
 | h :: t => h.den × DBs t
def wBs : (hs : List Bh) → DBs hs → List (Option Blk)
 | [], _ => []
 | h :: t, x => h.w x.1 :: wBs t x.2
def rBs {γ : Type} : (hs : List Bh) → List (Option Blk) → (DBs hs → Option γ) → Option γ
 | [], cs, k => match cs with | [] => k () | _ => none
 | h :: t, cs, k => match cs with | c :: cs => h.r c fun x => rBs t cs fun y => k (x, y) | [] => none
theorem rBs_spec {γ : Type} : ∀ (hs : List Bh) {cs : List (Option Blk)} {k : DBs hs → Option γ} {r : γ}, rBs hs cs k = some r → ∃ x, cs = wBs hs x ∧ k x = some r
 | [], cs, k, r, h => by
  unfold rBs at h
  split at h
  ·exact ⟨(), rfl, h⟩
  ·cases h
 | a :: t, cs, k, r, h => by
  unfold rBs at h
  split at h
  ·obtain ⟨x, rfl, h1⟩ := Bh.r_spec a h
   obtain ⟨y, rfl, h2⟩ := rBs_spec t h1
   exact ⟨(x, y), rfl, h2⟩
  ·cases h
theorem rBs_w {γ : Type} : ∀ (hs : List Bh) (x : DBs hs) (k : DBs hs → Option γ), rBs hs (wBs hs x) k = k x
 | [], x, k => rfl
 | a :: t, x, k => by
  show a.r (a.w x.1) _ = _
  rw [Bh.r_w, rBs_w t]
structure Arm (R : Type) where
 ts : List Th
 bs : List Bh
 G : DTs ts → DBs bs → Option R
def Arm.rd {R γ : Type} (a : Arm R) (tvs : List TV) (blks : List (Option Blk)) (k : DTs a.ts → DBs a.bs → Option γ) : Option γ := rTs a.ts tvs fun x => rBs a.bs blks fun y => k x y
def runArms {R γ : Type} : List (Arm R) → List TV → List (Option Blk) → (R → Option γ) → Option γ
 | [], _, _, _ => none
 | a :: l, tvs, blks, K => bif (a.rd tvs blks fun _ _ => some ()).isSome then a.rd tvs blks fun x y => (a.G x y).bind K else runArms l tvs blks K
theorem Arm.rd_w {R γ : Type} (a : Arm R) (x : DTs a.ts) (y : DBs a.bs) (k : DTs a.ts → DBs a.bs → Option γ) : a.rd (wTs a.ts x) (wBs a.bs y) k = k x y := by
 unfold Arm.rd
 rw [rTs_w, rBs_w]
theorem runArms_spec {R γ : Type} : ∀ {as : List (Arm R)} {tvs : List TV} {blks : List (Option Blk)} {K : R → Option γ} {r : γ}, runArms as tvs blks K = some r → ∃ a ∈ as, ∃ x y q, tvs = wTs a.ts x ∧ blks = wBs a.bs y ∧ a.G x y = some q ∧ K q = some r ∧ ∀ {δ : Type} (K' : R → Option δ), runArms as tvs blks K' = K' q
 | [], tvs, blks, K, r, h => by cases h
 | a :: l, tvs, blks, K, r, h => by
  unfold runArms at h
  cases c : (a.rd tvs blks fun _ _ => some ()).isSome with
  | true =>
   obtain ⟨u, hu⟩ := Option.isSome_iff_exists.1 c
   obtain ⟨x, rfl, hu1⟩ := rTs_spec a.ts (show rTs a.ts tvs _ = some u from hu)
   obtain ⟨y, rfl, _⟩ := rBs_spec a.bs hu1
   rw [c, cond_true, a.rd_w] at h
   obtain ⟨q, h1, h2⟩ := Option.bind_eq_some_iff.1 h
   refine ⟨a, List.mem_cons_self .., x, y, q, rfl, rfl, h1, h2, fun {δ} K' => ?_⟩
   unfold runArms
   rw [c, cond_true, a.rd_w, h1]; rfl
  | false =>
   rw [c] at h
   obtain ⟨b, hb, x, y, q, h1, h2, h3, h4, h5⟩ := runArms_spec (show runArms l tvs blks K = some r from h)
   refine ⟨b, List.mem_cons_of_mem _ hb, x, y, q, h1, h2, h3, h4, fun {δ} K' => ?_⟩
   unfold runArms
   rw [c]
   exact h5 K'
def mkCt {R : Type} (nin : Nat) (mv : List Nat) (as : List (Arm R)) (e : R → Res) : Ct where
 nin := nin
 mv := mv
 F := fun tvs blks {β} K => runArms as tvs (blks.map some) fun r => K (e r)
 legit := fun tvs blks K r h => by
  obtain ⟨a, _, x, y, q, _, _, _, h4, h5⟩ := runArms_spec h
  exact ⟨e q, h5 _, h4⟩
def mkSg {R : Type} (path : List Nat) (prep : List Prep) (keep : List Nat) (as : List (Arm R)) (e : R → Res) : Seg where
 path := path
 prep := prep
 keep := keep
 F := fun tvs blks {β} K => runArms as tvs blks fun r => K (e r)
 legit := fun tvs blks K r h => by
  obtain ⟨a, _, x, y, q, _, _, _, h4, h5⟩ := runArms_spec h
  exact ⟨e q, h5 _, h4⟩
def look : List (Nat × Ct) → FuncId → Option Ct
 | [], _ => none
 | p :: l, f => if f = p.1 then some p.2 else look l f
noncomputable def mkEnv (P : Program) (fn : Func) (cts : List (Nat × Ct)) (nin : Nat) (rmv : List Nat) (segs : List Seg) : FEnv :=
 { P := P, ct := look cts, N := fn.ntmps, body := fn.body.getD .skip, rvs := fn.results.toList, rts := fn.resultTypes.toList, nin := nin, rmv := rmv, segs := segs }
theorem look_ok {P : Program} : ∀ {cts : List (Nat × Ct)}, (∀ p ∈ cts, CtOK P p.1 p.2) → ∀ f c, look cts f = some c → CtOK P f c
 | [], _, f, c, h => by cases h
 | p :: l, h, f, c, hc => by
  unfold look at hc
  split at hc
  ·rename_i e
   cases hc; subst e
   exact h p (List.mem_cons_self ..)
  ·exact look_ok (fun q hq => h q (List.mem_cons_of_mem _ hq)) f c hc
theorem ctsOK {P : Program} {fn : Func} {cts : List (Nat × Ct)} {nin : Nat} {rmv : List Nat} {segs : List Seg} (h : ∀ p ∈ cts, CtOK P p.1 p.2) : EnvOK (mkEnv P fn cts nin rmv segs).toEnv := by
 intro f c hc
 exact look_ok h f c hc
def EvA (E : FEnv) (path keep : List Nat) {R : Type} (e : R → Res) (a : Arm R) : Prop := ∀ x y, evAt E path keep (wTs a.ts x) (wBs a.bs y) some = (a.G x y).bind fun r => some (e r)
def SegB (P : Program) (fn : Func) (nin : Nat) (s : Seg) : Prop := SegOK (mkEnv P fn [] nin [] []) fn s
theorem sn {P : Program} {fn : Func} {nin : Nat} {R : Type} {path : List Nat} {prep : List Prep} {keep : List Nat} {as : List (Arm R)} {e : R → Res} (h : ∀ a ∈ as, ∀ x y, a.G x y = none) : SegB P fn nin (mkSg path prep keep as e) := by
 intro tvs blks res hs
 obtain ⟨a, ha, x, y, q, _, _, h3, _⟩ := runArms_spec (show runArms as tvs blks (fun r => some (e r)) = some res from hs)
 rw [h a ha x y] at h3; cases h3
theorem sg_ok {P : Program} {fn : Func} {cts : List (Nat × Ct)} {nin : Nat} {rmv : List Nat} {segs : List Seg} {R : Type} {path : List Nat} {prep : List Prep} {keep : List Nat} {as : List (Arm R)} {e : R → Res} (hE : EnvOK (mkEnv P fn cts nin rmv segs).toEnv) (hs : ∀ s ∈ segs, SegB P fn nin s) (h : ∀ a ∈ as, EvA (mkEnv P fn cts nin rmv segs) path keep e a) : SegB P fn nin (mkSg path prep keep as e) := by
 refine seg_of_ev (E := mkEnv P fn cts nin rmv segs) hE ⟨rfl⟩ hs ?_
 intro tvs blks res hF
 obtain ⟨a, ha, x, y, q, rfl, rfl, h3, h4, _⟩ := runArms_spec (show runArms as tvs blks (fun r => some (e r)) = some res from hF)
 have := h a ha x y
 rw [h3] at this
 exact this.trans h4
theorem fn_ok {P : Program} {f : FuncId} {fn : Func} {cts : List (Nat × Ct)} {nin : Nat} {rmv : List Nat} {segs : List Seg} {R : Type} {mv : List Nat} {as : List (Arm R)} {e : R → Res} (hf : P.funcs[f]? = some fn) (hb : fn.body = some (fn.body.getD .skip)) (hm : (fn.name == "runtime.NumGoroutine") = false) (hE : EnvOK (mkEnv P fn cts nin rmv segs).toEnv) (hs : ∀ s ∈ segs, SegB P fn nin s) (h : ∀ a ∈ as, EvA (mkEnv P fn cts nin rmv segs) [] (List.range a.ts.length) e a) : CtOK P f (mkCt nin mv as e) := by
 refine ct_of_ev (E := mkEnv P fn cts nin rmv segs) ⟨hf, hb, rfl, rfl, hm⟩ hE hs rfl ?_
 intro tvs blks res hF
 obtain ⟨a, ha, x, y, q, h1, h2, h3, h4, _⟩ := runArms_spec (show runArms as tvs (blks.map some) (fun r => some (e r)) = some res from hF)
 have := h a ha x y
 rw [h3] at this
 rw [h2, h1, wTs_len]
 exact this.trans h4
def mkCtS {R : Type} (nin : Nat) (mv : List Nat) (as : List (Arm R)) (e : R → Res) (ek : {β : Type} → R → (Res → Option β) → Option β) (hk : ∀ {β : Type} (r : R) (K : Res → Option β), ek r K = K (e r)) : Ct where
 nin := nin
 mv := mv
 F := fun tvs blks {β} K => runArms as tvs (blks.map some) fun r => ek r K
 legit := fun tvs blks K r h => by
  obtain ⟨a, _, x, y, q, _, _, _, h4, h5⟩ := runArms_spec h
  exact ⟨e q, (h5 _).trans (hk _ _), (hk _ _).symm.trans h4⟩
theorem fn_okS {P : Program} {f : FuncId} {R : Type} {nin : Nat} {mv : List Nat} {as : List (Arm R)} {e : R → Res} {ek : {β : Type} → R → (Res → Option β) → Option β} (hk : ∀ {β : Type} (r : R) (K : Res → Option β), ek r K = K (e r)) (h : CtOK P f (mkCt nin mv as e)) : CtOK P f (mkCtS nin mv as e ek hk) := by
 intro tvs blks res hF
 refine h tvs blks res ?_
 have : (fun r => ek r some) = fun r => some (e r) := funext fun r => hk r some
 exact (congrArg (runArms as tvs (blks.map some)) this).symm.trans hF
theorem oa {α β γ : Type} (x : Option α) (f : α → Option β) (g : β → Option γ) : (x.bind f).bind g = x.bind fun y => (f y).bind g := Option.bind_assoc x f g
theorem os {α β : Type} (a : α) (f : α → Option β) : (some a).bind f = f a := rfl
theorem on {α β : Type} (f : α → Option β) : (none : Option α).bind f = none := rfl
theorem ofs {α : Type} (x : Option α) : x.bind some = x := Option.bind_fun_some x
def delCt (T : Ty) : Ct where
 nin := 0
 mv := [0]
 F := fun tvs blks {β} K => match tvs, blks with
  | [.v (.one (.own 0)), .v (.one (.d (.int .i64) i)), .v (.one (.d (.int .i64) j))], [.own u true xs] =>
   if u = T then (bif (decide (@LE.le Int _ 0 i) && decide (@LE.le Int _ i j)) && decide (@LE.le Int _ j (List.length xs : Int)) then K ⟨.v (.one (.own 0)), [some (.own u true (List.take (Int.toNat i) xs ++ List.drop (Int.toNat j) xs))]⟩ else none) else none
  | _, _ => none
 legit := fun tvs blks K r h => by
  split at h
  ·split at h
   ·rename_i i j u xs hu
    cases hc : (decide (@LE.le Int _ 0 i) && decide (@LE.le Int _ i j)) && decide (@LE.le Int _ j (List.length xs : Int)) with
    | false => rw [hc] at h; cases h
    | true =>
     rw [hc] at h
     exact ⟨_, by rw [if_pos hu]; rfl, h⟩
   ·cases h
  ·cases h
end Go.Proofs.YtijjlpgcpdapnaaGreatDoor.Aev
