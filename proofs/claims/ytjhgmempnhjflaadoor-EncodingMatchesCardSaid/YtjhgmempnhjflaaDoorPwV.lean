/-
  PW, part V: a row's start: no block of one's own.
-/
import Derived.Test.YtjhgmempnhjflaaDoorPwS
namespace Go.Pw
open Go Go.RowKit

def nil0 : Hp := ⟨fun _ => none, 0⟩
def loc0 : Loc := fun _ => (0, 0)

theorem hr_start (W : World) : HR W W nil0 loc0 :=
  ⟨Below.refl' W, fun _ _ h => by simp [nil0] at h, fun _ _ h => by simp [nil0] at h, fun _ _ h => by simp [nil0] at h, fun _ _ _ _ h => by simp [nil0] at h⟩

/-- What a law's walk says of its call. -/
theorem law_calls {P : Program} {W : World} {f : FuncId} {args : List SV} {b : Value} (H : PFun P W f args (.sv (.one (.val b)))) {vs : List Value} (hl : vs.length = args.length)
    (hv : ∀ (j : Nat) (s : SV) (v : Value), args[j]? = some s → vs[j]? = some v → SVR W nil0 loc0 s v) :
    Calls P f vs.toArray W fun e w' => e = .returned b ∧ Below W.heap.size W w' := by
  refine ((H nil0).2 W loc0 vs (hr_start W) hl hv).mono ?_
  rintro e w' ⟨v, r, h', m', rfl, ⟨rfl, _⟩, hr, hR, _⟩
  cases hr
  exact ⟨rfl, hR.below⟩

theorem args1 {w : World} {h : Hp} {m : Loc} {s : SV} {v : Value} (h1 : SVR w h m s v) : ∀ (j : Nat) (s' : SV) (v' : Value), [s][j]? = some s' → [v][j]? = some v' → SVR w h m s' v' := by
  intro j s' v' a b
  match j, a, b with
  | 0, a, b => obtain rfl := Option.some.inj a; obtain rfl := Option.some.inj b; exact h1
theorem args2 {w : World} {h : Hp} {m : Loc} {s s2 : SV} {v v2 : Value} (h1 : SVR w h m s v) (h2 : SVR w h m s2 v2) : ∀ (j : Nat) (s' : SV) (v' : Value), [s, s2][j]? = some s' → [v, v2][j]? = some v' → SVR w h m s' v' := by
  intro j s' v' a b
  match j, a, b with
  | 0, a, b => obtain rfl := Option.some.inj a; obtain rfl := Option.some.inj b; exact h1
  | 1, a, b => obtain rfl := Option.some.inj a; obtain rfl := Option.some.inj b; exact h2
theorem args3 {w : World} {h : Hp} {m : Loc} {s s2 s3 : SV} {v v2 v3 : Value} (h1 : SVR w h m s v) (h2 : SVR w h m s2 v2) (h3 : SVR w h m s3 v3) : ∀ (j : Nat) (s' : SV) (v' : Value), [s, s2, s3][j]? = some s' → [v, v2, v3][j]? = some v' → SVR w h m s' v' := by
  intro j s' v' a b
  match j, a, b with
  | 0, a, b => obtain rfl := Option.some.inj a; obtain rfl := Option.some.inj b; exact h1
  | 1, a, b => obtain rfl := Option.some.inj a; obtain rfl := Option.some.inj b; exact h2
  | 2, a, b => obtain rfl := Option.some.inj a; obtain rfl := Option.some.inj b; exact h3

theorem inI64_wf {a : Int} (w : (Lit.int .i64 a).wf = true) : inI64 a := by
  simpa [inI64, Lit.wf, IntKind.min, IntKind.max, IntKind.signed, IntKind.bits] using w

end Go.Pw
