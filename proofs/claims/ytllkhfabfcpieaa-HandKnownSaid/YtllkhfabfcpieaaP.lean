/-
  Chapter 16: a handshake, in plain words.
-/
namespace Go.Proofs.Ytllkhfabfcpieaa
/-- A handshake: whose it is, how far each space is, what is so. -/
structure Hd where
  sv : Bool
  e0 : Int
  e1 : Int
  e2 : Int
  va : Bool
  cf : Bool
  an : Bool
  deriving DecidableEq
def nothV (h : Hd) : Bool := h.e0 == 0 && (h.e1 == 0 && h.e2 == 0)
def inS (s : Int) : Bool := decide (0 ≤ s) && decide (s < 3)
def stg (h : Hd) (s : Int) : Int := bif s == 0 then h.e0 else bif s == 1 then h.e1 else h.e2
def needsV (h : Hd) (s : Int) : Int := bif nothV h then 1 else bif !inS s then 9 else bif stg h s != 1 then 160 else 0
def setS (h : Hd) (s e : Int) : Hd := ⟨h.sv, bif s == 0 then e else h.e0, bif s == 1 then e else h.e1, bif s == 2 then e else h.e2, h.va, h.cf, h.an⟩
def keysH (h : Hd) (s : Int) : Hd := bif needsV h s == 160 && stg h s != 2 then setS h s 1 else h
def keysE (h : Hd) (s : Int) : Int := bif needsV h s == 160 then (bif stg h s == 2 then 160 else 0) else needsV h s
def discH (h : Hd) (s : Int) : Hd := bif needsV h s == 0 && s != 2 then setS h s 2 else h
def discE (h : Hd) (s : Int) : Int := bif !nothV h && s == 2 then 2 else needsV h s
def valH (h : Hd) : Hd := bif nothV h then h else ⟨h.sv, h.e0, h.e1, h.e2, true, h.cf, h.an⟩
def valE (h : Hd) : Int := bif nothV h then 1 else 0
def confH (h : Hd) : Hd := bif needsV h 2 == 0 then ⟨h.sv, h.e0, h.e1, h.e2, true, true, h.an⟩ else h
def ansH (h : Hd) (s : Int) : Hd := bif needsV h s == 0 && s != 0 then ⟨h.sv, h.e0, h.e1, h.e2, h.va, h.cf, true⟩ else h
def livesV (h : Hd) (s : Int) : Bool := needsV h s == 0
def hasV (h : Hd) (s : Int) : Bool := !nothV h && (inS s && stg h s != 0)
def validV (h : Hd) : Bool := !nothV h && h.va
def confV (h : Hd) : Bool := !nothV h && h.cf
def sureV (h : Hd) : Bool := !nothV h && (h.sv || (h.cf || h.an))
def newH (sv : Bool) : Hd := ⟨sv, 1, 0, 0, !sv, false, false⟩
/-- One call, by its kind modulo six. -/
def callH (h : Hd) (kd sp : Int) : Hd :=
  bif kd % 6 == 0 then keysH h (sp % 3) else bif kd % 6 == 1 then keysH h (sp % 3) else bif kd % 6 == 2 then discH h (sp % 3) else bif kd % 6 == 3 then valH h else bif kd % 6 == 4 then confH h else ansH h (sp % 3)
def callE (h : Hd) (kd sp : Int) : Int :=
  bif kd % 6 == 0 then keysE h (sp % 3) else bif kd % 6 == 1 then keysE h (sp % 3) else bif kd % 6 == 2 then discE h (sp % 3) else bif kd % 6 == 3 then valE h else bif kd % 6 == 4 then needsV h 2 else needsV h (sp % 3)
def liveL (h : Hd) : List Int := (bif livesV h 0 then [0] else []) ++ ((bif livesV h 1 then [1] else []) ++ (bif livesV h 2 then [2] else []))
end Go.Proofs.Ytllkhfabfcpieaa
