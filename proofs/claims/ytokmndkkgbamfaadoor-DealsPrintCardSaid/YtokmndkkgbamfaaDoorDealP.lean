import Derived.Test.YtokmndkkgbamfaaDoorPaths
import Derived.Test.YtokmndkkgbamfaaDoorPwV
namespace Go.Pw
open Go Go.RowKit Go.Proofs
set_option maxRecDepth 100000
set_option linter.unusedSimpArgs false
set_option linter.unusedVariables false
theorem all_u8 {Q : UInt8 → Prop} (h : ∀ n : Fin 256, Q (UInt8.ofNat n.val)) (c : UInt8) : Q c := by
  have := h ⟨c.toNat, c.toNat_lt⟩
  simpa using this
/-! Deals: the plain part -/
structure ActG where
  kind : Int
  side : Int
  src : List UInt8
  dst : List UInt8
  size : Int
  time : Int
abbrev actPV (x : ActG) : List PV := [pint x.kind, pint x.side, pstr x.src, pstr x.dst, pint x.size, pint x.time]
abbrev refPV (x : List UInt8 × Int) : List PV := [pstr x.1, pint x.2]
structure DealG where
  acts : List ActG
  refs : List (List UInt8 × Int)
  eqs : List (List UInt8)
  cons : List (List UInt8)
abbrev dealPV (d : DealG) : List PV := [.ro false 6 (d.acts.map actPV), .ro false 2 (d.refs.map refPV), .ro false 1 (pstrs d.eqs), .ro false 1 (pstrs d.cons)]
def twoB (k : Int) : Bool := k == 1 || k == 2
def pathB (p : List UInt8) : Bool := !(p == []) && isPathB p
def actC5 (x : ActG) : Bool := (decide (x.kind < 1) || decide (x.kind > 4)) || (x.side != 1 && x.side != 2)
def actC1 (x : ActG) : Bool := !pathB x.src || (twoB x.kind && !pathB x.dst)
def actC6 (x : ActG) : Bool := (!twoB x.kind && x.dst != []) || (x.kind != 1 && (x.size != 0 || x.time != 0))
def actC7 (x : ActG) : Bool := decide (x.size < 0) || decide (x.time < 0)
def actE (x : ActG) : Int := if actC5 x = true then 5 else if actC1 x = true then 1 else if actC6 x = true then 6 else if actC7 x = true then 7 else 0
/-- The first error of acts. -/
def actsE : List ActG → Int
  | [] => 0
  | x :: l => if actE x = 0 then actsE l else actE x
def pathsE (l : List (List UInt8)) : Int := if l.all isPathB then 0 else 1
def dealE (d : DealG) : Int :=
  if d.acts.length > 20000 ∨ d.refs.length > 5000 ∨ d.eqs.length > 5000 ∨ d.cons.length > 5000 then 8
  else if actsE d.acts ≠ 0 then actsE d.acts
  else pathsE (d.refs.map (·.1) ++ (d.eqs ++ d.cons))
def qc (c : UInt8) : List UInt8 := if c < 32 ∨ c = 34 ∨ c = 92 then [92, 48 + c / 64, 48 + c / 8 % 8, 48 + c % 8] else [c]
def quoteB (p : List UInt8) : List UInt8 := [34] ++ ((p.map qc).flatten ++ [34])
def wordK (k : Int) : List UInt8 := if k = 1 then [112, 117, 116] else if k = 2 then [107, 101, 101, 112] else if k = 3 then [114, 101, 109, 111, 118, 101] else [99, 108, 101, 97, 114]
def sideK (s : Int) : List UInt8 := if s = 1 then [65] else [66]
def actW (x : ActG) : List (List UInt8) := [wordK x.kind, sideK x.side] ++ ((if x.kind = 1 then [Lib.itoa x.size, Lib.itoa x.time] else []) ++ ([quoteB x.src] ++ (if x.dst = [] then [] else [quoteB x.dst])))
def lineW (l : List (List UInt8)) : List UInt8 := Lib.join l [32] ++ [10]
def REFUSED : List UInt8 := [114, 101, 102, 117, 115, 101, 100]
def EQUAL : List UInt8 := [101, 113, 117, 97, 108]
def CONFLICT : List UInt8 := [99, 111, 110, 102, 108, 105, 99, 116]
def dealT (d : DealG) : List UInt8 :=
  (d.acts.map fun x => lineW (actW x)).flatten ++ ((d.refs.map fun r => lineW [REFUSED, Lib.itoa r.2, quoteB r.1]).flatten ++
    ((d.eqs.map fun p => lineW [EQUAL, quoteB p]).flatten ++ (d.cons.map fun p => lineW [CONFLICT, quoteB p]).flatten))
end Go.Pw
