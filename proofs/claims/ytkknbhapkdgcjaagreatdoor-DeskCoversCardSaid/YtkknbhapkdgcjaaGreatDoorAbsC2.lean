/- An executor of the model's code over abstract values, and that it is right: what it tells of a run is what the run does. No condition. -/
import Derived.Test.YtkknbhapkdgcjaaGreatDoorAbsC1
section
set_option linter.unusedVariables false
namespace Go.Abs
open Go
structure Callee where
 lend : List Bool
 run : {R : Type} → List AV → List (Option Blk) → (AV → zC → Option R) → Option R
structure Ctx where
 P : Program
 G : Nat → AV
 Γ : FuncId → Option Callee
 ro : TypeId → Bool
def zJh (C : Ctx) (t : TypeId) (x : AV) : Bool := C.ro t && zR x && solid x
def zHZ : Value → AV
 | .bool b => .bool b
 | .int k n => .int k n
 | .string s => .str s
 | .slice none 0 0 => .snil
 | .pointer none => .nilp
 | .nilFunc => .nilf
 | .nilIface => .nili
 | _ => .any
def get (C : Ctx) (tm : List AV) : Operand → AV
 | .tmp t => tm.getD t .any
 | .const v => zHZ v
 | .global g => match C.G g with | .any => .any | v => .rptr v
 | .func f => .fn (.func f) [] []
mutual
def yQ (bl : zC) : AV → Option AV
 | .slice id path s len _ => match zF bl id, path with
  | some (.ints k l), [] => some (.rints k ((l.drop s).take len))
  | some (.objs e w l), [] => some (.robjs e w ((l.drop s).take len))
  | some (.var v), p => match zM v p with
   | some (.ints k _ l) => some (.rints k ((l.drop s).take len))
   | _ => none
  | _, _ => none
 | .own id _ => match zF bl id with
  | some (.ints k l) => some (.rints k l)
  | some (.objs e w l) => some (.robjs e w l)
  | some (.mp l) => some (.rmap l)
  | _ => none
 | .ptr id path => match zF bl id with
  | some b => match zCB b path with
   | some x => if zR x = true then some (.rptr x) else none
   | none => none
  | none => none
 | .aptr _ _ _ _ => none
 | .agg kids => match wD bl kids with | some l => some (.agg l) | none => none
 | .tup kids => match wD bl kids with | some l => some (.tup l) | none => none
 | .fn g a b => match wD bl a, wD bl b with | some x, some y => some (.fn g x y) | _, _ => none
 | .iface t v => match yQ bl v with | some x => some (.iface t x) | none => none
 | x => some x
def wD (bl : zC) : List AV → Option (List AV)
 | [] => some []
 | x :: r => match yQ bl x, wD bl r with | some y, some l => some (y :: l) | _, _ => none
end
def yY (bl : zC) : Nat → List Nat → List Nat → List Nat
 | 0, _, acc => acc
 | _ + 1, [], acc => acc
 | f + 1, i :: r, acc => if (acc.contains i || decide (bl.length ≤ i)) = true then yY bl f r acc else yY bl f (r ++ zLo (zF bl i)) (acc ++ [i])
def pos (l : List Nat) (i : Nat) : Option Nat := go l 0
where
 go : List Nat → Nat → Option Nat
  | [], _ => none
  | x :: r, n => if x = i then some n else go r (n + 1)
def kE : List Bool → List AV → List Nat
 | true :: fs, x :: r => ids x ++ kE fs r
 | _ :: fs, _ :: r => kE fs r
 | _, _ => []
def z6 (bl : zC) (lent : List Nat) : List Bool → List AV → Option (List AV × Bool)
 | _, [] => some ([], false)
 | true :: fs, x :: r => match z6 bl lent fs r with | some (l, b) => some (ren (pos lent) x :: l, b) | none => none
 | f, x :: r => if ((ids x).all fun i => !lent.contains i) = true then
   (match yQ bl x, z6 bl lent f.tail r with | some y, some (l, b) => some (y :: l, b || !zR x) | _, _ => none) else none
def z1 (lent : List Nat) (n : Nat) (j : Nat) : Option Nat :=
 if j < lent.length then lent[j]? else some (n + (j - lent.length))
def z8 (ρ : Nat → Option Nat) : List Nat → zC → zC → zC
 | i :: is, b :: out, bl => z8 ρ is out (bl.set i (b.map (qG ρ)))
 | _, out, bl => bl ++ out.map (Option.map (qG ρ))
def jL (bl : zC) (lent : List Nat) : Bool := lent.all fun i => match zF bl i with | some .free => false | _ => true
def wR : zC → Bool
 | [] => true
 | some (.var v) :: r => kR v && wR r
 | some (.objs _ _ _) :: _ => false
 | some (.mp _) :: _ => false
 | _ :: r => wR r
section
variable {R : Type} (C : Ctx)
def kS (f : FuncId) (args : List AV) (bl : zC) (K : Cat → AV → zC → Option R) : Option R :=
 match C.Γ f with
 | none => none
 | some m =>
  match z6 bl (yY bl 40 (kE m.lend args) []) m.lend args with
  | none => none
  | some (args', looks) =>
   m.run args' ((yY bl 40 (kE m.lend args) []).map fun i => (zF bl i).map (qG (pos (yY bl 40 (kE m.lend args) [])))) fun v out =>
    if ((kE m.lend args).isEmpty && out.isEmpty) = true then
     (if zR v = true then
      (if looks = true then (if kR v = true then K .read v bl else none) else K .pure v bl) else none)
    else (if ((!looks || (kR v && wR out)) && jL bl (yY bl 40 (kE m.lend args) [])) = true then
     K .write (ren (z1 (yY bl 40 (kE m.lend args) []) bl.length) v) (z8 (z1 (yY bl 40 (kE m.lend args) []) bl.length) (yY bl 40 (kE m.lend args) []) out bl) else none)
def zJs (b : Blk) (p : List Nat) (K : AV → Option R) : Option R :=
 match b, p with
 | .objs e _ l, i :: p => zBi C.P 8 e (l.getD i .any) fun y => match zM y p with | some x => K x | none => none
 | b, p => match zCB b p with | some x => K x | none => none
def zBq (t : TypeId) (a : AV) (bl : zC) (K : Cat → AV → zC → Option R) : Option R :=
 match a with
 | .ptr id path => match zF bl id with
  | some b => zJs C b path fun x => if yJ C.P 8 t x = true then K .read x bl else none
  | none => none
 | .aptr id path s n => match zF bl id, path with
  | some (.ints k l), [] => if yJ C.P 8 t (.ints k n ((l.drop s).take n)) = true then K .read (.ints k n ((l.drop s).take n)) bl else none
  | some (.var v), p => match zM v p with
   | some (.ints k _ l) => if yJ C.P 8 t (.ints k n ((l.drop s).take n)) = true then K .read (.ints k n ((l.drop s).take n)) bl else none
   | _ => none
  | _, _ => none
 | .rptr x => if yJ C.P 8 t x = true then K .pure x bl else none
 | _ => none
def zDr (t : TypeId) (a x : AV) (bl : zC) (K : Cat → AV → zC → Option R) : Option R :=
 match a with
 | .ptr id path => match zF bl id with
  | some b => match zBK b path x with
   | some b' => if (solid x && yJ C.P 8 t x) = true then K .write .any (bl.set id (some b')) else none
   | none => none
  | none => none
 | _ => none
def zFG (id w n : Nat) (l : Nat) (h : Option Nat) : AV :=
 match h with
 | some k => .slice id [] l (span n l (some k)) w
 | none => match l with
  | 0 => .own id w
  | l + 1 => .slice id [] (l + 1) (span n (l + 1) none) w
def jW (t : TypeId) (x : AV) (lo hi : Option AV) (bl : zC) (K : Cat → AV → zC → Option R) : Option R :=
 match C.P.underlying t, x with
 | some .string, .str s => jT lo hi s.size fun l h => K .pure (.str (s.extract l (h.getD s.size))) bl
 | some (.slice e), .snil => if qF C.P e (zP C.P e) = true then jT lo hi 0 fun _ _ => K .pure .snil bl else none
 | some (.slice e), .rints k r => if qF C.P e 1 = true then jT lo hi r.length fun l h => K .pure (.rints k (cut r l h)) bl else none
 | some (.slice e), .robjs e' w r => if qF C.P e w = true then jT lo hi r.length fun l h => K .pure (.robjs e' w (cut r l h)) bl else none
 | some (.slice e), .slice id p s len w => if qF C.P e w = true then jT lo hi len fun l h => K .pure (.slice id p (s + l) (span len l h) w) bl else none
 | some (.slice e), .own id w => if qF C.P e w = true then (match zF bl id with
  | some (.ints _ r) => jT lo hi r.length fun l h => K .read (zFG id w r.length l h) bl
  | some (.objs _ _ r) => jT lo hi r.length fun l h => K .read (zFG id w r.length l h) bl
  | _ => none) else none
 | some (.array n e), .rptr (.ints k m r) => if (m == n && qF C.P e 1) = true then jT lo hi n fun l h => K .pure (.rints k (cut r l h)) bl else none
 | some (.array n e), .ptr id p => match zF bl id with
  | some (.var v) => match zM v p with
   | some (.ints _ m _) => if (m == n && qF C.P e 1) = true then jT lo hi n fun l h => K .read (.slice id p l (span n l h) 1) bl else none
   | _ => none
  | _ => none
 | _, _ => none
def qK (t : TypeId) (x : AV) (f : Nat) (bl : zC) (K : Cat → AV → zC → Option R) : Option R :=
 match x with
 | .rptr (.agg kids) => match kids[f]?, C.P.underlying t with
  | some y, some (.struct fs) => match fs[f]? with
   | some a => if (yJ C.P 8 t (.agg kids) && decide (zP C.P a.type ≠ 0)) = true then K .pure (.rptr y) bl else none
   | none => none
  | _, _ => none
 | .ptr id path => match zF bl id with
  | some b => match C.P.underlying t with
   | some (.struct fs) => match fs[f]? with
    | some a => zJs C b path fun y => if (yJ C.P 8 t y && decide (zP C.P a.type ≠ 0)) = true then K .read (.ptr id (path ++ [f])) bl else none
    | none => none
   | _ => none
  | none => none
 | _ => none
def yT (t : TypeId) (x ix : AV) (bl : zC) (K : Cat → AV → zC → Option R) : Option R :=
 match ix with
 | .int _ i => match C.P.underlying t, x with
  | some (.slice e), .rints k l => if qF C.P e 1 = true then (if 0 ≤ i then (if i < (l.length : Int) then K .pure (.rptr (.int k (l.getD i.toNat 0))) bl else none) else none) else none
  | some (.slice e), .robjs _ w l => if qF C.P e w = true then (if 0 ≤ i then (if i < (l.length : Int) then zBi C.P 8 e (l.getD i.toNat .any) fun y => K .pure (.rptr y) bl else none) else none) else none
  | some (.slice e), .own id w => if qF C.P e w = true then (match zF bl id with
   | some (.ints _ l) => if 0 ≤ i then (if i < (l.length : Int) then K .read (.ptr id [i.toNat]) bl else none) else none
   | some (.objs _ _ l) => if 0 ≤ i then (if i < (l.length : Int) then K .read (.ptr id [i.toNat]) bl else none) else none
   | _ => none) else none
  | some (.slice e), .slice id p s len w => if qF C.P e w = true then (if 0 ≤ i then (if i < (len : Int) then K .pure (.ptr id (p ++ [s + i.toNat])) bl else none) else none) else none
  | some (.array n e), .rptr (.ints k m l) => if (m == n && qF C.P e 1) = true then (if 0 ≤ i then (if i < (n : Int) then K .pure (.rptr (.int k (l.getD i.toNat 0))) bl else none) else none) else none
  | some (.array n e), .rptr (.agg kids) => if (kids.length == n && yJ C.P 8 t (.agg kids)) = true then (if 0 ≤ i then (if i < (n : Int) then K .pure (.rptr (kids.getD i.toNat .any)) bl else none) else none) else none
  | some (.array n _), .ptr id p => match zF bl id with
   | some b => zJs C b p fun y => if yJ C.P 8 t y = true then (if 0 ≤ i then (if i < (n : Int) then K .read (.ptr id (p ++ [i.toNat])) bl else none) else none) else none
   | none => none
  | _, _ => none
 | _ => none
def zEY (t : TypeId) (x : AV) (f : Nat) (K : AV → Option R) : Option R :=
 match x with
 | .agg kids => match kids[f]?, C.P.underlying t with
  | some y, some (.struct fs) => match fs[f]? with
   | some _ => if yJ C.P 8 t (.agg kids) = true then K y else none
   | none => none
  | _, _ => none
 | _ => none
def zCz (t : TypeId) (x ix : AV) (K : AV → Option R) : Option R :=
 match ix with
 | .int _ i => match C.P.underlying t, x with
  | some (.array n _), .ints k m l => if yJ C.P 8 t (.ints k m l) = true then (if 0 ≤ i then (if i < (n : Int) then K (.int k (l.getD i.toNat 0)) else none) else none) else none
  | some (.array n _), .agg kids => if yJ C.P 8 t (.agg kids) = true then (if 0 ≤ i then (if i < (n : Int) then K (kids.getD i.toNat .any) else none) else none) else none
  | some .string, .str s => if 0 ≤ i then (if i < (s.size : Int) then K (.int .u8 ((bytesOf s).getD i.toNat 0)) else none) else none
  | _, _ => none
 | _ => none
def zCG : AV → List (Nat × AV) → Option AV
 | x, [] => some x
 | .agg kids, (i, y) :: r => match kids[i]? with
  | some z => if yB z y = true then zCG (.agg (kids.set i y)) r else none
  | none => none
 | .ints k n l, (i, .int k' y) :: r => if k = k' then (if i < n then zCG (.ints k n (l.set i y)) r else none) else none
 | _, _ => none
def zBw (k : IntKind) : List Int → List (Nat × AV) → Option (List Int)
 | l, [] => some l
 | l, (i, .int k' y) :: r => if k = k' then (if i < l.length then zBw k (l.set i y) r else none) else none
 | _, _ => none
def zBv : List AV → List (Nat × AV) → Option (List AV)
 | l, [] => some l
 | l, (i, y) :: r => match l[i]? with
  | some z => if (yB z y && zR y && solid y) = true then zBv (l.set i y) r else none
  | none => none
def jC (ps : List (Nat × AV)) : Bool := ps.all fun p => match p.2 with | .any | .tup _ => false | _ => true
def isComp : AV → Bool
 | .agg _ | .ints _ _ _ => true
 | _ => false
def zFe (t : TypeId) (ps : List (Nat × AV)) (K : AV → Option R) : Option R :=
 match zAe C.P t with
 | some z => if (jC ps && yJ C.P 8 t z && isComp z && decide (width z ≠ 0)) = true then (match zCG z ps with | some x => K x | none => none) else none
 | none => none
def yG (t : TypeId) (len : Nat) (ps : List (Nat × AV)) (bl : zC) (K : Cat → AV → zC → Option R) : Option R :=
 match C.P.underlying t with
 | some (.slice e) =>
  if (decide (len * zP C.P e ≤ 16777216) && jC ps) = true then
   (match zAe C.P e with
    | some (.int k z) => if qF C.P e 1 = true then (match zBw k (List.replicate len z) ps with
     | some l => K .write (.own bl.length 1) (bl ++ [some (.ints k l)])
     | none => none) else none
    | some z => if (zR z && solid z && yJ C.P 8 e z && decide (zP C.P e ≠ 0)) = true then (match zBv (List.replicate len z) ps with
     | some l => K .write (.own bl.length (zP C.P e)) (bl ++ [some (.objs e (zP C.P e) l)])
     | none => none) else none
    | none => none)
  else none
 | _ => none
def yN (t : TypeId) (len : Nat) (ps : List (Nat × AV)) : Option (Nat × Blk) :=
 match C.P.underlying t with
 | some (.slice e) =>
  if (decide (len * zP C.P e ≤ 16777216) && jC ps) = true then
   (match zAe C.P e with
    | some (.int k z) => if qF C.P e 1 = true then (match zBw k (List.replicate len z) ps with
     | some l => some (1, .ints k l)
     | none => none) else none
    | some z => if (zR z && solid z && yJ C.P 8 e z && decide (zP C.P e ≠ 0)) = true then (match zBv (List.replicate len z) ps with
     | some l => some (zP C.P e, .objs e (zP C.P e) l)
     | none => none) else none
    | none => none)
  else none
 | _ => none
def zHI (bl : zC) : List (Nat × AV) → Option (List (Nat × AV))
 | [] => some []
 | p :: r => match yQ bl p.2, zHI bl r with | some y, some l => some ((p.1, y) :: l) | _, _ => none
def yO : List Nat → zC → zC
 | [], bl => bl
 | i :: r, bl => yO r (bl.set i none)
def jI (g : FuncId) (args : List AV) (bl : zC) (K : Cat → AV → zC → Option R) : Option R :=
 match C.ro (1000000 + g) with
 | true => match wD bl args with
  | some xs => kS C g xs (yO (qZ args) bl) fun _ v bl' => K .write v bl'
  | none => none
 | false => match C.ro (2000000 + g) with
  | true => kS C g args bl fun _ v bl' => match yQ bl' v with
   | some y => if ((ids v).all fun i => decide (bl.length ≤ i)) = true then K .write y (yO (ids v) bl') else none
   | none => none
  | false => kS C g args bl K
def yM (t : TypeId) (len : Nat) (ps : List (Nat × AV)) (bl : zC) (K : Cat → AV → zC → Option R) : Option R :=
 match qZ (ps.map (·.2)) with
 | [] => match yN C t len ps with
  | some (_, .objs e w l) => K .pure (.robjs e w l) bl
  | some (_, .ints k l) => if C.ro (5000000 + t) = true then K .write (.rints k l) (bl ++ [none]) else yG C t len ps bl K
  | _ => yG C t len ps bl K
 | i :: r => match zHI bl ps with
  | some ps' => match yN C t len ps' with
   | some (_, .objs e w l) => K .write (.robjs e w l) (yO (i :: r) bl ++ [none])
   | _ => none
  | none => none
def jX (t : TypeId) (l c : AV) (bl : zC) (K : Cat → AV → zC → Option R) : Option R :=
 match C.P.underlying t, l, c with
 | some (.slice e), .int _ n, .int _ m =>
  if 0 ≤ n then (if n ≤ m then (if m * (zAR C.P e : Int) ≤ 140737488355328 then (if m ≤ 1152921504606846976 then
   (match zAe C.P e with
    | some (.int k z) => if qF C.P e 1 = true then K .write (.own bl.length 1) (bl ++ [some (.ints k (List.replicate n.toNat z))]) else none
    | some z => if (zR z && solid z && yJ C.P 8 e z && decide (zP C.P e ≠ 0)) = true then K .write (.own bl.length (zP C.P e)) (bl ++ [some (.objs e (zP C.P e) (List.replicate n.toNat z))]) else none
    | none => none) else none) else none) else none) else none
 | _, _, _ => none
inductive Els where
 | ints (k : IntKind) (l : List Int)
 | objs (e w : Nat) (l : List AV)
def wE (bl : zC) : AV → Option Els
 | .str s => some (.ints .u8 (bytesOf s))
 | .rints k l => some (.ints k l)
 | .robjs e w l => some (.objs e w l)
 | .own id _ => match zF bl id with
  | some (.ints k l) => some (.ints k l)
  | some (.objs e w l) => some (.objs e w l)
  | _ => none
 | .slice id path s len _ => match zF bl id, path with
  | some (.ints k l), [] => some (.ints k ((l.drop s).take len))
  | some (.objs e w l), [] => some (.objs e w ((l.drop s).take len))
  | some (.var v), p => match zM v p with
   | some (.ints k _ l) => some (.ints k ((l.drop s).take len))
   | _ => none
  | _, _ => none
 | _ => none
def kQ (e : TypeId) (x : AV) (bl : zC) (K : Cat → AV → zC → Option R) : Option R :=
 match wE bl x with
 | some (.ints k r) => if (decide (zAi C.P e = some k) && qF C.P e 1) = true then (if r.length * zAR C.P e ≤ 70368744177664 ∧ r.length ≤ 9223372036854775807 then K .write (.own bl.length 1) (bl ++ [some (.ints k r)]) else none) else none
 | some (.objs e' w r) => if (e' == e && qF C.P e w) = true then (if r.length * zAR C.P e ≤ 70368744177664 ∧ r.length ≤ 9223372036854775807 then K .write (.own bl.length w) (bl ++ [some (.objs e w r)]) else none) else none
 | none => none
def kP (e id w : Nat) (x : AV) (bl : zC) (K : Cat → AV → zC → Option R) : Option R :=
 match wE bl x, zF bl id with
 | some (.ints k r), some (.ints k' l) =>
  if (decide (zAi C.P e = some k) && decide (k = k') && qF C.P e 1 && w == 1) = true then
   (if (l.length + r.length) * zAR C.P e ≤ 70368744177664 ∧ l.length + r.length ≤ 9223372036854775807 then K .write (.own bl.length 1) (bl.set id none ++ [some (.ints k (l ++ r))]) else none) else none
 | some (.objs e1 w1 r), some (.objs e2 w2 l) =>
  if (e1 == e && e2 == e && w1 == w && w2 == w && qF C.P e w) = true then
   (if (l.length + r.length) * zAR C.P e ≤ 70368744177664 ∧ l.length + r.length ≤ 9223372036854775807 then K .write (.own bl.length w) (bl.set id none ++ [some (.objs e w (l ++ r))]) else none) else none
 | _, _ => none
def zBC (e : TypeId) (s : AV) (n : Int) (bl : zC) (K : Cat → AV → zC → Option R) : Option R :=
 if 0 ≤ n then
  (match zAe C.P e with
   | some (.int k z) => (match s with
    | .snil => kQ C e (.rints k (List.replicate n.toNat z)) bl K
    | .own id w => kP C e id w (.rints k (List.replicate n.toNat z)) bl K
    | _ => none)
   | _ => none)
 else none
def zJR (P : Program) (tx : TypeId) : Bool := match P.underlying tx with | some (.slice _) | some .string => true | _ => false
def wW (t tx : TypeId) (s x : AV) (bl : zC) (K : Cat → AV → zC → Option R) : Option R :=
 match C.P.underlying t with
 | some (.slice e) =>
  if zJR C.P tx = true then
   (match s with
    | .snil => match x with
     | .snil => if qF C.P e (zP C.P e) = true then K .pure .snil bl else none
     | x => kQ C e x bl K
    | .own id w => match x with
     | .snil => if qF C.P e w = true then K .pure (.own id w) bl else none
     | x => kP C e id w x bl K
    | _ => none)
  else (match C.P.underlying tx, x with
   | some (.int _), .int .i64 n => zBC C e s n bl K
   | _, _ => none)
 | _ => none
def zEf (t : TypeId) (x : AV) (bl : zC) (K : Cat → AV → zC → Option R) : Option R :=
 match C.P.underlying t, x with
 | some .string, .str s => K .pure (.int .i64 s.size) bl
 | some (.slice _), .snil => K .pure (.int .i64 0) bl
 | some (.slice _), .rints _ l => K .pure (.int .i64 l.length) bl
 | some (.slice _), .robjs _ _ l => K .pure (.int .i64 l.length) bl
 | some (.slice _), .slice _ _ _ n _ => K .pure (.int .i64 n) bl
 | some (.slice _), .own id _ => match zF bl id with
  | some (.ints _ l) => K .read (.int .i64 l.length) bl
  | some (.objs _ _ l) => K .read (.int .i64 l.length) bl
  | _ => none
 | some (.array n _), _ => K .pure (.int .i64 n) bl
 | _, _ => none
def zLA (t : TypeId) (x : AV) (bl : zC) (K : Cat → AV → zC → Option R) : Option R :=
 match C.P.underlying t, x with
 | some (.slice _), .snil => K .pure (.int .i64 0) bl
 | _, _ => none
def zGv (t : TypeId) (d x : AV) (bl : zC) (K : Cat → AV → zC → Option R) : Option R :=
 match C.P.underlying t with
 | some (.slice e) => if qF C.P e 1 = true then
  (match wE bl x, d with
   | some (.ints k r), .own id _ => match zF bl id with
    | some (.ints k' l) => if k = k' then K .write (.int .i64 (min r.length l.length : Nat)) (bl.set id (some (.ints k (r.take l.length ++ l.drop r.length)))) else none
    | _ => none
   | some (.ints k r), .slice id path st n _ => match zF bl id, path with
    | some (.var (.ints k' m l)), [] => if k = k' then K .write (.int .i64 (min r.length n : Nat)) (bl.set id (some (.var (.ints k m (l.take st ++ (r.take n ++ l.drop (st + min r.length n))))))) else none
    | _, _ => none
   | _, _ => none) else none
 | _ => none
def zEc (k : IntKind) : Int → List AV → (AV → Option R) → Option R
 | a, [], K => K (.int k a)
 | a, x :: r, K => match x with
  | .int k' b => if k = k' then zEc k (if b > a then b else a) r K else none
  | _ => none
def zMp : List AV → (AV → Option R) → Option R
 | .int k a :: r, K => zEc k a r K
 | _, _ => none
def zEa (k : IntKind) : Int → List AV → (AV → Option R) → Option R
 | a, [], K => K (.int k a)
 | a, x :: r, K => match x with
  | .int k' b => if k = k' then zEa k (if b < a then b else a) r K else none
  | _ => none
def zMo : List AV → (AV → Option R) → Option R
 | .int k a :: r, K => zEa k a r K
 | _, _ => none
def zAQ (s d : TypeId) (x : AV) (bl : zC) (K : Cat → AV → zC → Option R) : Option R :=
 match C.P.underlying s, C.P.underlying d with
 | some (.slice e), some .string => if zAi C.P e = some .u8 then
  (match wE bl x with
   | some (.ints k l) => if k = .u8 then K .read (.str (strOf l)) bl else none
   | _ => none) else none
 | _, _ => none
def zAZ (s d : TypeId) (x : AV) (bl : zC) (K : Cat → AV → zC → Option R) : Option R :=
 match x with
 | .int _ n => match C.P.underlying s, C.P.underlying d with
  | some _, some (.int k) => K .pure (.int k (k.wrap n)) bl
  | _, _ => none
 | .str t => match C.P.underlying s, C.P.underlying d with
  | some .string, some .string => K .pure (.str t) bl
  | some .string, some (.slice e) => if (decide (zAi C.P e = some .u8) && qF C.P e 1) = true then K .write (.own bl.length 1) (bl ++ [some (.ints .u8 (bytesOf t))]) else none
  | _, _ => none
 | .snil => match C.P.underlying s, C.P.underlying d with
  | some (.slice e), some .string => if zAi C.P e = some .u8 then K .pure (.str ByteArray.empty) bl else none
  | _, _ => none
 | .rints k l => match C.P.underlying s, C.P.underlying d with
  | some (.slice e), some .string => if zAi C.P e = some .u8 then (if k = .u8 then K .pure (.str (strOf l)) bl else none) else none
  | _, _ => none
 | .own id w => zAQ C s d (.own id w) bl K
 | .slice id p a n w => zAQ C s d (.slice id p a n w) bl K
 | _ => none
def qS (t : TypeId) (x : AV) (bl : zC) (K : Cat → AV → zC → Option R) : Option R :=
 match C.P.underlying t, x with
 | some (.array n _), .rints k l => if n ≤ l.length then (if n ≠ 0 then K .pure (.rptr (.ints k n (l.take n))) bl else none) else none
 | some (.array n _), .slice id p s len w => if w = 1 then (if n ≤ len then (if n ≠ 0 then K .pure (.aptr id p s n) bl else none) else none) else none
 | some (.array n _), .own id w => if w = 1 then (match zF bl id with
  | some (.ints _ l) => if n ≤ l.length then (if n ≠ 0 then K .read (.aptr id [] 0 n) bl else none) else none
  | _ => none) else none
 | _, _ => none
def eqK (t : TypeId) (x y : AV) (K : Bool → Option R) : Option R :=
 if (zBX C.P 8 t && yJ C.P 8 t x && yJ C.P 8 t y && !C.P.eqGuardType C.P.depth t) = true then
  (match qT x y with | some b => K b | none => none) else none
def zBh (bl : zC) : AV → Option (Cat × List AV)
 | .rmap l => some (.pure, l)
 | .own id _ => match zF bl id with
  | some (.mp l) => some (.read, l)
  | _ => none
 | _ => none
mutual
def j4 : AV → Bool
 | .int _ _ | .ints _ _ _ => true
 | .agg kids => zCy kids
 | _ => false
def zCy : List AV → Bool
 | [] => true
 | x :: r => j4 x && zCy r
end
def zIN (P : Program) (kt : TypeId) : Bool := match P.underlying kt with | some (.array _ _) | some (.struct _) => true | _ => false
def zJe (kt : TypeId) (k : AV) : Bool := zIN C.P kt && zBX C.P 8 kt && yJ C.P 8 kt k && j4 k
def zEe (t : TypeId) (m k : AV) (ok : Bool) (bl : zC) (K : Cat → AV → zC → Option R) : Option R :=
 match C.P.underlying t, zBh bl m with
 | some (.map kt et), some (c, l) => if zJe C kt k = true then (match zAe C.P et with
  | some z => zD (mgetL k z l) fun p => zBi C.P 8 et p.1 fun y => if ok = true then K c (.tup [y, .bool p.2]) bl else K c y bl
  | none => none) else none
 | _, _ => none
def zEd (t : TypeId) (m k v : AV) (bl : zC) (K : Cat → AV → zC → Option R) : Option R :=
 match C.P.underlying t, m with
 | some (.map kt et), .own id _ => match zF bl id with
  | some (.mp l) => if (zJe C kt k && yJ C.P 8 et v && zR v && solid v) = true then
   zD (mputL k v l) fun l' => K .write .any (bl.set id (some (.mp l'))) else none
  | _ => none
 | _, _ => none
def zDc (t : TypeId) (m k : AV) (bl : zC) (K : Cat → AV → zC → Option R) : Option R :=
 match C.P.underlying t, m with
 | some (.map kt _), .own id _ => match zF bl id with
  | some (.mp l) => if zJe C kt k = true then
   zD (mdelL k l) fun l' => K .write .any (bl.set id (some (.mp l'))) else none
  | _ => none
 | _, _ => none
def jQ (t : TypeId) (bl : zC) (K : Cat → AV → zC → Option R) : Option R :=
 match C.ro (7000000 + t) with
 | true => K .write (.own bl.length 0) (bl ++ [some (.mp [])])
 | false => K .pure (.rmap []) bl
def zFO (t : TypeId) (x : AV) (bl : zC) (K : Cat → AV → zC → Option R) : Option R :=
 match C.ro (4000000 + t) with
 | false => K .pure (.iface t x) bl
 | true => match x with
  | .ptr id [] => match zF bl id with
   | some (.var (.agg [.int _ _, .errv tF ts k])) => if tF = t then K .write (.errv tF ts (k % 100 + 100)) (yO [id] bl) else none
   | _ => none
  | _ => none
def opK (o : Oper) (ev : Operand → AV) (bl : zC) (K : Cat → AV → zC → Option R) : Option R :=
 match o.op with
 | .move x | .assign x => K .pure (ev x) bl
 | .pick c a b => match ev c with
  | .bool t => if t = true then K .pure (ev a) bl else K .pure (ev b) bl
  | _ => none
 | .alloc t => match zAe C.P t with
  | some z => K .write (.ptr bl.length []) (bl ++ [some (.var z)])
  | none => none
 | .box t x => match zJh C t (ev x) with
  | true => K .pure (.rptr (ev x)) bl
  | false => match ev x with
   | .any => none
   | .tup _ => none
   | v => K .write (.ptr bl.length []) (bl ++ [some (.var v)])
 | .build t ps => zFe C t (ps.toList.map fun p => (p.1, ev p.2)) fun v => K .pure v bl
 | .buildSlice t n ps => yM C t n (ps.toList.map fun p => (p.1, ev p.2)) bl K
 | .load t a => zBq C t (ev a) bl K
 | .store t a x => zDr C t (ev a) (ev x) bl K
 | .nilCheck x => match ev x with
  | .ptr id p => K .pure (.ptr id p) bl
  | .rptr v => K .pure (.rptr v) bl
  | .fn (.func f) a b => K .pure (.fn (.func f) a b) bl
  | _ => none
 | .binOp op t x y _ => match op, ev x, ev y with
  | .eql, .ints k n l, .ints k' n' r => eqK C t (.ints k n l) (.ints k' n' r) fun b => K .pure (.bool b) bl
  | .neq, .ints k n l, .ints k' n' r => eqK C t (.ints k n l) (.ints k' n' r) fun b => K .pure (.bool !b) bl
  | .eql, .agg l, .agg r => eqK C t (.agg l) (.agg r) fun b => K .pure (.bool b) bl
  | .neq, .agg l, .agg r => eqK C t (.agg l) (.agg r) fun b => K .pure (.bool !b) bl
  | .eql, .bool a, .bool b => eqK C t (.bool a) (.bool b) fun b => K .pure (.bool b) bl
  | .neq, .bool a, .bool b => eqK C t (.bool a) (.bool b) fun b => K .pure (.bool !b) bl
  | .eql, .nili, .nili => match C.P.underlying t, y with
   | some (.interface _), .const .nilIface => K .pure (.bool true) bl
   | _, _ => none
  | .neq, .nili, .nili => match C.P.underlying t, y with
   | some (.interface _), .const .nilIface => K .pure (.bool false) bl
   | _, _ => none
  | .eql, .iface _ _, .nili => match C.P.underlying t, y with
   | some (.interface _), .const .nilIface => K .pure (.bool false) bl
   | _, _ => none
  | .neq, .iface _ _, .nili => match C.P.underlying t, y with
   | some (.interface _), .const .nilIface => K .pure (.bool true) bl
   | _, _ => none
  | .eql, .errv _ _ _, .nili => match C.P.underlying t, y with
   | some (.interface _), .const .nilIface => K .pure (.bool false) bl
   | _, _ => none
  | .neq, .errv _ _ _, .nili => match C.P.underlying t, y with
   | some (.interface _), .const .nilIface => K .pure (.bool true) bl
   | _, _ => none
  | op, a, b => zMW op a b fun v => K .pure v bl
 | .unOp op _ x => unK op (ev x) fun v => K .pure v bl
 | .convert s d x => zAZ C s d (ev x) bl K
 | .sliceToArrayPointer t x => qS C t (ev x) bl K
 | .makeInterface t x => match C.P.underlying t with
  | some (.interface _) => none
  | some _ => zFO C t (ev x) bl K
  | none => none
 | .makeFunc f a b => K .pure (.fn f (a.toList.map ev) (b.toList.map ev)) bl
 | .makeSlice t l c => jX C t (ev l) (ev c) bl K
 | .slice t x lo hi none => jW C t (ev x) (lo.map ev) (hi.map ev) bl K
 | .fieldAddr t x f => qK C t (ev x) f bl K
 | .field t x f => zEY C t (ev x) f fun v => K .pure v bl
 | .indexAddr t x i => yT C t (ev x) (ev i) bl K
 | .index t x i => zCz C t (ev x) (ev i) fun v => K .pure v bl
 | .makeMap t none => jQ C t bl K
 | .lookup t m k ok => zEe C t (ev m) (ev k) ok bl K
 | .mapUpdate t m k v => zEd C t (ev m) (ev k) (ev v) bl K
 | .extract t i => match ev t with
  | .tup vs => match vs[i]? with | some v => K .pure v bl | none => none
  | _ => none
 | .call c => match c.callee with
  | .value f => match ev f with
   | .fn (.func g) a b => jI C g (a ++ c.args.toList.map ev ++ b) bl K
   | _ => none
  | .builtin b => match b, c.argTypes.toList, c.args.toList.map ev with
   | .len, t :: _, [x] => zEf C t x bl K
   | .append, [t, tx], [s, x] => wW C t tx s x bl K
   | .cap, t :: _, [x] => zLA C t x bl K
   | .copy, t :: _, [d, x] => zGv C t d x bl K
   | .delete, t :: _, [m, k] => zDc C t m k bl K
   | .max, _, l => zMp l fun v => K .pure v bl
   | .min, _, l => zMo l fun v => K .pure v bl
   | _, _, _ => none
  | _ => none
 | _ => none
inductive RC where
 | pure | read | write
 | readAt (id : Nat)
 | storeAt (id : Nat)
 | alloc (id : Nat)
 | touch (S : List Nat)
def RC.free : RC → RC → Bool
 | .pure, _ | _, .pure => true
 | .read, .read | .read, .readAt _ | .readAt _, .read | .readAt _, .readAt _ => true
 | .readAt i, .storeAt j | .storeAt i, .readAt j | .storeAt i, .storeAt j => i != j
 | .readAt i, .alloc j | .alloc j, .readAt i | .storeAt i, .alloc j | .alloc j, .storeAt i => decide (i < j)
 | .touch S, .readAt j | .readAt j, .touch S | .touch S, .storeAt j | .storeAt j, .touch S => !S.contains j
 | .touch S, .touch T => S.all fun i => !T.contains i
 | .touch S, .alloc j | .alloc j, .touch S => S.all fun i => decide (i < j)
 | _, _ => false
def wC : AV → RC
 | .ptr id _ => .readAt id
 | .aptr id _ _ _ => .readAt id
 | .own id _ => .readAt id
 | .slice id _ _ _ _ => .readAt id
 | _ => .read
def zLl : Op → Bool
 | .alloc _ | .box _ _ => true
 | _ => false
def nAl : List Oper → Nat
 | [] => 0
 | o :: r => match zLl o.op with | true => nAl r + 1 | false => nAl r
def nBs : List Oper → Nat
 | [] => 0
 | o :: r => match o.op with | .buildSlice _ _ _ => nBs r + 1 | _ => nBs r
def zDU (draw : Bool) (ops : Array Oper) : Nat :=
 match draw with
 | true => match nAl ops.toList with | 0 => 0 | 1 => (match nBs ops.toList with | 0 => 0 | _ => 1) | n => n
 | false => 0
def zHV : Nat → zC → zC
 | 0, bl => bl
 | n + 1, bl => zHV n (bl ++ [some .free])
def zJY (n k : Nat) : Option Nat := match n with | 0 => none | _ => some k
def zKA (rs : Option Nat) (o : Op) : Option Nat := match rs with | none => none | some id => match zLl o with | true => some (id + 1) | false => some id
def zAl (id : Nat) (v : AV) (bl : zC) (K : Cat → AV → zC → Option R) : Option R :=
 match zF bl id with
 | some .free => K .write (.ptr id []) (bl.set id (some (.var v)))
 | _ => none
def opA (rs : Option Nat) (o : Oper) (ev : Operand → AV) (bl : zC) (K : Cat → AV → zC → Option R) : Option R :=
 match rs with
 | none => opK C o ev bl K
 | some id => match o.op with
  | .alloc t => match zAe C.P t with
   | some z => zAl id z bl K
   | none => none
  | .box t x => match zJh C t (ev x) with
   | true => K .pure (.rptr (ev x)) bl
   | false => match ev x with
    | .any => none
    | .tup _ => none
    | v => zAl id v bl K
  | _ => opK C o ev bl K
def zFL (n : Nat) (f : AV) (args : List AV) : RC :=
 match f with
 | .fn (.func g) a b => match C.Γ g with
  | some m => match !C.ro (1000000 + g) && ((kE m.lend (a ++ args ++ b)).isEmpty && kA (a ++ args ++ b)) with
   | true => .alloc n
   | false => .write
  | none => .write
 | _ => .write
def zEt (f : AV) (args : List AV) : RC :=
 match f with
 | .fn (.func g) a b => match C.Γ g with
  | some m => match kE m.lend (a ++ args ++ b), qZ (a ++ args ++ b) with
   | [], [id] => .readAt id
   | _, _ => .read
  | none => .read
 | _ => .read
def wN (rs : Option Nat) (o : Op) (ev : Operand → AV) (n : Nat) : Cat → RC
 | .pure => .pure
 | .read => match o with
  | .load _ a => wC (ev a)
  | .fieldAddr _ x _ => wC (ev x)
  | .indexAddr _ x _ => wC (ev x)
  | .slice _ x _ _ _ => wC (ev x)
  | .sliceToArrayPointer _ x => wC (ev x)
  | .convert _ _ x => wC (ev x)
  | .lookup _ m _ _ => wC (ev m)
  | .call c => match c.callee with
   | .builtin .len => match c.args.toList with | [x] => wC (ev x) | _ => .read
   | .value f => zEt C (ev f) (c.args.toList.map ev)
   | _ => .read
  | _ => .read
 | .write => match o with
  | .store _ a _ => match ev a with | .ptr id _ => .storeAt id | _ => .write
  | .buildSlice _ _ ps => match qZ ((ps.toList.map fun p => (p.1, ev p.2)).map (·.2)) with | [] => .alloc n | _ :: _ => .write
  | .makeMap _ _ => .alloc n
  | .alloc _ => match rs with | some id => .storeAt id | none => .alloc n
  | .box _ _ => match rs with | some id => .storeAt id | none => .alloc n
  | .call c => match c.callee with
   | .value f => zFL C n (ev f) (c.args.toList.map ev)
   | _ => .write
  | _ => .write
def zKM (S L : List Nat) (bl bl' : zC) : Bool :=
 L.all (fun i => S.contains i) && S.all fun i => (zF bl i).isSome && (zLo (zF bl i)).all (fun j => S.contains j) && (zLo (zF bl' i)).all fun j => decide (j < bl.length)
def zCT (o : Op) (ev : Operand → AV) (bl : zC) (v : AV) (bl' : zC) : Option (List Nat) :=
 match o with
 | .call c => match c.callee with
  | .value f => match ev f with
   | .fn (.func g) a b => match C.Γ g with
    | some m => match kE m.lend (a ++ c.args.toList.map ev ++ b) with
     | [] => none
     | l :: L => match z6 bl (yY bl 40 (l :: L) []) m.lend (a ++ c.args.toList.map ev ++ b) with
      | some (_, false) => match !C.ro (1000000 + g) && !C.ro (2000000 + g) && bl'.length == bl.length && zR v && zKM (yY bl 40 (l :: L) []) (l :: L) bl bl' with
       | true => some (yY bl 40 (l :: L) [])
       | false => none
      | _ => none
    | none => none
   | _ => none
  | _ => none
 | _ => none
def zCf (rs : Option Nat) (o : Op) (ev : Operand → AV) (bl : zC) (v : AV) (bl' : zC) : Cat → RC
 | .write => match zCT C o ev bl v bl' with
  | some S => .touch S
  | none => wN C rs o ev bl.length .write
 | c => wN C rs o ev bl.length c
def put (tm : List AV) (d : Option Nat) (v : AV) : List AV := match d with | some d => tm.set d v | none => tm
def zDx (ops : Array Oper) (o : Oper) (tm : List AV) (K : Bool → List AV → Option R) : Option R :=
 match o.guard with
 | none => K true tm
 | some (j, want) => match (ops[j]?).bind (·.dst) with
  | some d => match tm.getD d .any with
   | .bool b => if b = true then K (want == true) (tm.set d (.bool true)) else K (want == false) (tm.set d (.bool false))
   | .tup [] => K false tm
   | _ => none
  | none => none
def zBN (ops : Array Oper) : Option Nat → List Oper → List AV → zC → List RC → (List RC → List AV → zC → Option R) → Option R
 | _, [], tm, bl, cs, K => K cs.reverse tm bl
 | rs, o :: r, tm, bl, cs, K => zDx ops o tm fun yes tm =>
  if yes = true then opA C rs o (get C tm) bl fun c v bl' => zBN ops (zKA rs o.op) r (put tm o.dst v) bl' (zCf C rs o.op (get C tm) bl v bl' c :: cs) K
  else zBN ops (zKA rs o.op) r (put tm o.dst (.tup [])) bl (.pure :: cs) K
def zAs (ops : Array Oper) (cs : List RC) : Bool :=
 let b := CheckFast.beforeF ops
 let cm := cs.toArray
 let ord (i j : Nat) : Bool := (b.getD j 0).testBit i
 (List.range ops.size).all fun j =>
  ((ops.getD j default).after.all fun e => !Region.binds .any e || decide (e.on < j)) &&
  (List.range j).all fun i =>
   ((cm.getD i .write).free (cm.getD j .write) || ord i j) &&
   (ord i j || (ops.getD i default).apart ops (ops.getD j default))
inductive Ex where
 | normal | exit (id : Nat) | ret
structure St where
 tm : List AV
 bl : zC
def zCv (order : List Nat) (live : List Nat) (st : St) : St :=
 {tm := live.map fun s => ren (pos order) (st.tm.getD s .any)
  bl := order.map fun i => (zF st.bl i).map (qG (pos order)) }
def wS (lent : Nat) (live : List Nat) (st : St) : List Nat := yY st.bl 60 (List.range lent ++ live.flatMap fun s => ids (st.tm.getD s .any)) []
def zIW {R : Type} (len lent : Nat) (live : List Nat) (st : St) (k : St → Option R) : Option R :=
 if (st.tm.length == len && (wS lent live st).take lent == List.range lent) = true then k (zCv (wS lent live st) live st) else none
inductive NK where
 | ints (k : IntKind)
 | objs (e w : Nat)
 | agg (l : List (Option NK))
def NK.blk : NK → Blk
 | .ints k => .ints k []
 | .objs e w => .objs e w []
 | .agg _ => .ints .u8 []
def NK.w : NK → Nat
 | .ints _ => 1
 | .objs _ w => w
 | .agg _ => 1
def NK.r : NK → AV
 | .ints k => .rints k []
 | .objs e w => .robjs e w []
 | .agg _ => .rints .u8 []
def zFJ (k : NK) (id : Nat) (p : List Nat) (bl : zC) : zC :=
 match zF bl id with
 | some (.var v) => match zM v p with
  | some .snil => match zBK (.var v) p (.own bl.length k.w) with
   | some b' => (bl ++ [some k.blk]).set id (some b')
   | none => bl
  | _ => bl
 | _ => bl
def zKg (k : NK) (id : Nat) : List (List Nat) → zC → zC
 | [], bl => bl
 | p :: r, bl => zKg k id r (zFJ k id p bl)
def zMl (k : NK) (id : Nat) (p : List Nat) (bl : zC) : zC :=
 match zF bl id with
 | some (.var v) => match zM v p with
  | some .snil => match zBK (.var v) p k.r with
   | some b' => bl.set id (some b')
   | none => bl
  | _ => bl
 | _ => bl
def zIi : Nat → List (Option NK) → Nat → zC → zC
 | i, some k :: r, id, bl => zIi (i + 1) r id (zFJ k id [i] bl)
 | i, none :: r, id, bl => zIi (i + 1) r id bl
 | _, [], _, bl => bl
def zIh (k : NK) (id : Nat) (bl : zC) : zC := match k with
 | .agg [some k] => zMl k id [0] bl
 | .agg (none :: r) => zIi 1 r id bl
 | k => zKg k id [[], [0], [1], [2], [3]] bl
def ghost (p : Nat × NK) (st : St) : St :=
 match st.tm.getD p.1 .any with
 | .snil => ⟨st.tm.set p.1 (.own st.bl.length p.2.w), st.bl ++ [some p.2.blk]⟩
 | .ptr id [] => ⟨st.tm, zIh p.2 id st.bl⟩
 | _ => st
def wL : List (Nat × NK) → St → St
 | [], st => st
 | p :: r, st => wL r (ghost p st)
def zKk (s : Nat) (st : St) : St := match yQ st.bl (st.tm.getD s .any) with
 | some y => ⟨st.tm.set s y, yO (ids (st.tm.getD s .any)) st.bl⟩
 | none => st
def zMC (id : Nat) (p : List Nat) (bl : zC) : zC := match zF bl id with
 | some (.var v) => match zM v p with
  | some (.own i w) => match yQ bl (.own i w) with
   | some y => match zBK (.var v) p y with
    | some b' => (yO [i] bl).set id (some b')
    | none => bl
   | none => bl
  | _ => bl
 | _ => bl
def frzV (id : Nat) : List (List Nat) → zC → zC
 | [], bl => bl
 | p :: r, bl => frzV id r (zMC id p bl)
def frzP (s : Nat) (st : St) : St := match st.tm.getD s .any with
 | .ptr id [] => ⟨st.tm, frzV id [[0], [1], [2], [3], [4], [5]] st.bl⟩
 | _ => st
def frz1 (s : Nat) (st : St) : St := zKk s (frzP s st)
def frzL : List Nat → St → St
 | [], st => st
 | s :: r, st => frzL r (frz1 s st)
def zLr (C : Ctx) (id : Nat) (st : St) : St := match C.ro (3000000 + id * 1000) with
 | true => frzL ((List.range 100).filter fun s => C.ro (3000001 + id * 1000 + s)) st
 | false => st
def zLY {R : Type} (s : Nat) (st : St) (K : St → Option R) : Option R :=
 match st.tm.getD s .any with
 | .int k n => if n = 1 then K ⟨st.tm.set s (.int k 1), st.bl⟩ else (if n = 2 then K ⟨st.tm.set s (.int k 2), st.bl⟩ else (if n = 3 then K ⟨st.tm.set s (.int k 3), st.bl⟩ else none))
 | _ => none
def zJS {R : Type} (C : Ctx) (id : Nat) (st : St) (K : St → Option R) : Option R := match C.ro (6000000 + id * 1000) with
 | true => zLY (((List.range 100).filter fun s => C.ro (6000001 + id * 1000 + s)).headD 0) st K
 | false => K st
def kX : List (Option NK) → List AV → zC → List AV × zC
 | some k :: r, .snil :: l, bl => (.own bl.length k.w :: (kX r l (bl ++ [some k.blk])).1, (kX r l (bl ++ [some k.blk])).2)
 | _ :: r, x :: l, bl => (x :: (kX r l bl).1, (kX r l bl).2)
 | [], l, bl => (l, bl)
 | _, [], bl => ([], bl)
def partL (q : List Int) : Nat → Nat → List Int
 | 0, len => q.take len
 | s + 1, len => (q.drop (s + 1)).take len
def zLV (bl : zC) : AV → Option (Nat × IntKind × List Int)
 | .slice id [] s len _ => match zF bl id with
  | some (.ints k q) => some (id, k, partL q s len)
  | _ => none
 | _ => none
def qN : List AV → zC → List AV × zC
 | x :: l, bl => match zLV bl x with
  | some p => (.own bl.length 1 :: (qN l (bl.set p.1 none ++ [some (.ints p.2.1 p.2.2)])).1, (qN l (bl.set p.1 none ++ [some (.ints p.2.1 p.2.2)])).2)
  | none => (x :: (qN l bl).1, (qN l bl).2)
 | [], bl => ([], bl)
def zJW (id : Nat) (bl : zC) : zC := match zF bl id with
 | some (.var (.own j 1)) => match zF bl j with
  | some (.ints k l) => (bl.set j none ++ [some (Blk.ints k l)]).set id (some (Blk.var (.own bl.length 1)))
  | _ => bl
 | _ => bl
def zHQ (id : Nat) (p : List Nat) (bl : zC) : zC := match zF bl id with
 | some (.var v) => match zM v p with
  | some (.own j w) => match zF bl j with
   | some (.objs e w' l) => match zBK (.var v) p (.own bl.length w) with
    | some b' => (bl.set j none ++ [some (Blk.objs e w' l)]).set id (some b')
    | none => bl
   | _ => bl
  | _ => bl
 | _ => bl
def zJV (ks : List (Option NK)) (l : List AV) (bl : zC) : zC := match ks with
 | [some (.agg [])] => zJW 0 bl
 | [some (.agg (none :: r))] => match l with
  | .ptr id [] :: _ => zIh (.agg (none :: r)) id bl
  | _ => bl
 | ks => match ks.getLast? with
  | some (some (.agg [some _])) => zHQ 1 [8] (zHQ 0 [8] bl)
  | _ => bl
def zBS (ks : List (Option NK)) (l : List AV) (bl : zC) : List AV × zC := ((kX ks (qN l bl).1 (qN l bl).2).1, zJV ks (kX ks (qN l bl).1 (qN l bl).2).1 (kX ks (qN l bl).1 (qN l bl).2).2)
mutual
def zFs : NK → AV → AV
 | .agg l, x => match x with | .agg kids => .agg (jY l kids) | x => x
 | .ints k, x => match x with | .snil => .rints k [] | x => x
 | .objs e w, x => match x with | .snil => .robjs e w [] | x => x
def zCe : Option NK → AV → AV
 | some k, x => zFs k x
 | none, x => x
def jY : List (Option NK) → List AV → List AV
 | k :: r, l => match l with | x :: l => zCe k x :: jY r l | [] => []
 | [], l => l
end
def zHM : List Nat → List AV → Nat → AV
 | s :: r, v :: vs, t => if s = t then v else zHM r vs t
 | _, _, _ => .any
def jV (len : Nat) (live : List Nat) (st : St) : St := ⟨(List.range len).map (zHM live st.tm), st.bl⟩
def key : Code → Nat
 | .region id _ _ => id
 | .seq a _ => key a
 | .cond _ a _ => key a
 | .block _ b => key b
 | .loop b => key b
 | .scope b => key b
 | _ => 0
def zBs : Code → Nat
 | .seq (.region id _ _) (.cond _ _ _) => id
 | .block id _ => 10000 + id
 | .region id _ _ => 20000 + id
 | _ => 999999
structure LoopC where
 run : {R : Type} → St → (Ex → St → Option R) → Option R
structure Ann where
 len : Nat
 lent : Nat
 live : Nat → List Nat × List Nat
 nils : List (Nat × NK)
 rnil : List (Option NK)
 loop : Nat → Option LoopC
 jlive : Nat → List Nat × List Nat
 join : Nat → Option LoopC
def zS {T : Type} (body : (St → Option T) → St → Option T) : Nat → St → Option T
 | 0, _ => none
 | n + 1, st => body (zS body n) st
def X (C : Ctx) (A : Ann) (n : Nat) (c : Code) {R : Type} (st : St) (K : Ex → St → Option R) : Option R :=
 match c with
 | .skip => K .normal st
 | .region id ops draw => zJS C id st fun st => zBN C ops (zJY (zDU draw ops) (zLr C id st).bl.length) ops.toList (zLr C id st).tm (zHV (zDU draw ops) (zLr C id st).bl) [] fun cs tm bl => if (!draw || zAs ops cs) = true then K .normal ⟨tm, bl⟩ else none
 | .seq a b => match A.join (zBs a) with
  | some m => zIW A.len A.lent (A.jlive (zBs a)).1 (wL A.nils st) fun st1 => m.run st1 fun e st2 => match e with
   | .normal => X C A n b (jV A.len (A.jlive (zBs a)).2 st2) K
   | e => K e (jV A.len (A.jlive (zBs a)).2 st2)
  | none => X C A n a st fun e st' => match e with | .normal => X C A n b st' K | e => K e st'
 | .cond c a b => match c with
  | .tmp t => match st.tm.getD t .any with
   | .bool v => if v = true then X C A n a ⟨st.tm.set t (.bool true), st.bl⟩ K else X C A n b ⟨st.tm.set t (.bool false), st.bl⟩ K
   | _ => none
  | .const (.bool v) => if v = true then X C A n a st K else X C A n b st K
  | _ => none
 | .block id b => X C A n b st fun e st' => match e with | .exit j => if j = id then K .normal st' else K (.exit j) st' | e => K e st'
 | .loop b => match A.loop (key b) with
  | some m => zIW A.len A.lent (A.live (key b)).1 (wL A.nils st) fun st1 => m.run st1 fun e st2 => K e (jV A.len (A.live (key b)).2 st2)
  | none => none
 | .exit id => K (.exit id) st
 | .ret => K .ret st
 | _ => none
def zT (C : Ctx) (A : Ann) (n : Nat) (b : Code) (rec : St → Option (Ex × St)) (st : St) : Option (Ex × St) :=
 X C A n b (jV A.len (A.live (key b)).1 st) fun e st' => match e with
  | .normal => zIW A.len A.lent (A.live (key b)).1 (wL A.nils st') rec
  | e => zIW A.len A.lent (A.live (key b)).2 (wL A.nils st') fun st' => some (e, st')
def zIe (C : Ctx) (A : Ann) (n : Nat) (a : Code) (st : St) : Option (Ex × St) :=
 X C A n a (jV A.len (A.jlive (zBs a)).1 st) fun e st' => zIW A.len A.lent (A.jlive (zBs a)).2 (wL A.nils st') fun st' => some (e, st')
def kM : Code → List Code
 | .seq a b => a :: (kM a ++ kM b)
 | .cond _ a b => kM a ++ kM b
 | .block _ b => kM b
 | .loop b => kM b
 | _ => []
def zK : Code → List Code
 | .seq a b => zK a ++ zK b
 | .cond _ a b => zK a ++ zK b
 | .block _ b => zK b
 | .loop b => b :: zK b
 | _ => []
def jD (rs : List ResultVar) (st : St) (K : List AV → Option R) : Option R :=
 match rs with
 | [] => K []
 | .tmp t :: r => jD r st fun l => K (st.tm.getD t .any :: l)
 | .cell a t :: r => zBq C t (st.tm.getD a .any) st.bl fun _ v _ => jD r st fun l => K (v :: l)
def zIV : List AV → AV
 | [v] => v
 | l => .tup l
def zCE {R : Type} (lent : Nat) (v : AV) (bl : zC) (K : AV → zC → Option R) : Option R :=
 if ((yY bl 60 (List.range lent ++ ids v) []).take lent == List.range lent) = true then
  K (ren (pos (yY bl 60 (List.range lent ++ ids v) [])) v) ((yY bl 60 (List.range lent ++ ids v) []).map fun i => (zF bl i).map (qG (pos (yY bl 60 (List.range lent ++ ids v) []))))
 else none
def runF (A : Ann) (n : Nat) (f : Func) (args : List AV) (lent : zC) (K : AV → zC → Option R) : Option R :=
 match f.body with
 | some c => X C A n c ⟨args ++ List.replicate (A.len - args.length) .any, lent⟩ fun e st => match e with
  | .exit _ => none
  | _ => jD C f.results.toList st fun l => zCE A.lent (zIV (zBS A.rnil l st.bl).1) (zBS A.rnil l st.bl).2 K
 | none => none
end
def Callee.mk' {T U : Type} (lend : List Bool) (anil : List (Option NK)) (pat : List AV → zC → Option T) (f : T → Option U) (resK : {R : Type} → U → (AV → zC → Option R) → Option R) : Callee :=
 ⟨lend, fun args lent K => match pat (jY anil args) lent with
  | some t => zD (f t) fun u => resK u K
  | none => none⟩
def zW : List (Nat × LoopC) → Nat → Option LoopC
 | [], _ => none
 | (k, c) :: r, n => if k = n then some c else zW r n
def Callee.pick (p : List AV → Bool) (a b : Callee) : Callee := ⟨a.lend, fun args lent K => if p args = true then a.run args lent K else b.run args lent K⟩
def zBF (t : Int × Int × Int) : Option (Int × Int) :=
 if 0 ≤ t.1 then (if 0 ≤ t.2.1 then (if 0 ≤ t.2.2 then (if t.2.2 ≤ 1 then some ((t.1 + t.2.1 + t.2.2) % 18446744073709551616, (t.1 + t.2.1 + t.2.2) / 18446744073709551616) else none) else none) else none) else none
def zBE (t : Int × Int × Int) : Option (Int × Int) :=
 if 0 ≤ t.1 then (if 0 ≤ t.2.1 then (if t.2.1 < 18446744073709551616 then (if 0 ≤ t.2.2 then (if t.2.2 ≤ 1 then some ((t.1 - t.2.1 - t.2.2) % 18446744073709551616, if t.1 < t.2.1 + t.2.2 then 1 else 0) else none) else none) else none) else none) else none
def LoopC.mk' {T U : Type} (pat : St → Option T) (f : T → Option U) (resK : {R : Type} → U → (Ex → St → Option R) → Option R) : LoopC :=
 ⟨fun st K => match pat st with
  | some t => zD (f t) fun u => resK u K
  | none => none⟩
def LoopC.alt {T : Type} (pat : St → Option T) (a b : LoopC) : LoopC := ⟨fun st K => match pat st with | some _ => a.run st K | none => b.run st K⟩
end Go.Abs
end
section
set_option linter.unusedVariables false
set_option linter.unusedSimpArgs false
namespace Go.Abs
open Go
def zAS (P : Program) (o : Oper) (a : Act) (w : World) (Rr : Value → World → Prop) : Prop :=
 ∀ next Q, (∀ v' w', Rr v' w' → next (a.put o.dst v') w') → o.wp P a w next Q
theorem zAS.value {P : Program} {o : Oper} {a : Act} {w w' : World} {v' : Value} {Rr : Value → World → Prop}
  (h : (execOp a.eval o).run P w = .ok (.value v') w') (hr : Rr v' w') : zAS P o a w Rr := fun next Q hn => by
 unfold Oper.wp; rw [h]; exact hn _ _ hr
theorem zAS.skip {P : Program} {o : Oper} {a : Act} {w w' : World} {Rr : Value → World → Prop}
  (h : (execOp a.eval o).run P w = .ok .skip w') (hr : Rr undef w') : zAS P o a w Rr := fun next Q hn => by
 unfold Oper.wp; rw [h]; exact hn _ _ hr
theorem zAS.mono {P : Program} {o : Oper} {a : Act} {w : World} {Rr Rr' : Value → World → Prop} (h : zAS P o a w Rr) (hr : ∀ v w, Rr v w → Rr' v w) :
  zAS P o a w Rr' := fun next Q hn => h next Q fun v w hv => hn v w (hr v w hv)
theorem VR.int_inv {E : Env} {o : Bool} {k : IntKind} {n : Int} {v : Value} (h : VR E o (.int k n) v) : v = .int k n := by cases h; rfl
theorem VR.bool_inv {E : Env} {o : Bool} {b : Bool} {v : Value} (h : VR E o (.bool b) v) : v = .bool b := by cases h; rfl
inductive Plain : AV → Value → Prop where
 | int (k n) : Plain (.int k n) (.int k n)
 | bool (b) : Plain (.bool b) (.bool b)
 | str (s) : Plain (.str s) (.string s)
theorem Plain.vr {x : AV} {v : Value} (h : Plain x v) (E : Env) (o : Bool) : VR E o x v := by
 cases h
 ·exact .int _ _ _
 ·exact .bool _ _
 ·exact .str _ _
section
variable {R : Type}
theorem zKq {op : BinOp} {x y : AV} {K : AV → Option R} {r : R} (h : zMW op x y K = some r) :
  ∃ v v', (∀ K2 : AV → Option R, zMW op x y K2 = K2 v) ∧ Plain v v' ∧
   ∀ (P : Program) (E : Env) (x' y' : Value), VR E true x x' → VR E true y y' → ∀ w t xo yo, (do eqGuard op t xo yo x' y'; binOp op t x' y').run P w = .ok v' w := by
 unfold zMW at h
 split at h <;> (try split at h) <;> (try split at h) <;> (try (cases h; done))
 all_goals
  try subst_vars
  first
  | refine ⟨_, _, fun K2 => rfl, .bool _, fun P E x' y' hx hy w t xo yo => ?_⟩
  | refine ⟨_, _, fun K2 => rfl, .str _, fun P E x' y' hx hy w t xo yo => ?_⟩
  | refine ⟨_, _, fun K2 => if_pos ‹_›, .int _ _, fun P E x' y' hx hy w t xo yo => ?_⟩
  | refine ⟨_, _, fun K2 => if_pos ‹_›, .str _, fun P E x' y' hx hy w t xo yo => ?_⟩
  | refine ⟨_, _, fun K2 => if_pos rfl, .int _ _, fun P E x' y' hx hy w t xo yo => ?_⟩
  | refine ⟨_, _, fun K2 => if_pos rfl, .bool _, fun P E x' y' hx hy w t xo yo => ?_⟩
  | refine ⟨_, _, fun K2 => (if_pos rfl).trans (if_neg ‹_›), .int _ _, fun P E x' y' hx hy w t xo yo => ?_⟩
  cases hx; cases hy
 all_goals try simp [eqGuard, binOp, Op.intArith, Op.intBits, Op.intCmp, Op.intDiv, Op.shift, Op.stringOp, ibits, ishl, ishr, *]
 all_goals first
  | (intro hh; omega)
  | omega
theorem zKY {op : UnOp} {x : AV} {K : AV → Option R} {r : R} (h : unK op x K = some r) :
  ∃ v v', (∀ K2 : AV → Option R, unK op x K2 = K2 v) ∧ Plain v v' ∧ ∀ (P : Program) (E : Env) (x' : Value), VR E true x x' → ∀ w, (Op.unary op x').run P w = .ok v' w := by
 unfold unK at h
 split at h <;> (try (cases h; done))
 ·exact ⟨_, _, fun K2 => rfl, .int _ _, fun P E x' hx w => by cases hx; simp [Op.unary, Op.intArith]⟩
 ·exact ⟨_, _, fun K2 => rfl, .int _ _, fun P E x' hx w => by cases hx; simp [Op.unary, Op.intBits, ibits]⟩
 ·exact ⟨_, _, fun K2 => rfl, .bool _, fun P E x' hx w => by cases hx; simp [Op.unary]⟩
theorem zDm {k : IntKind} : ∀ {l : List AV} {a : Int} {K : AV → Option R} {r : R}, zEc k a l K = some r →
  ∃ n, (∀ K2 : AV → Option R, zEc k a l K2 = K2 (.int k n)) ∧ ∀ (P : Program) (E : Env) (vs : List Value), vs.length = l.length → (∀ (j : Nat) x c, l[j]? = some x → vs[j]? = some c → VR E true x c) →
   ∀ w, (vs.foldlM Builtin.max2 (.int k a)).run P w = .ok (.int k n) w
 | [], a, K, r, h => ⟨a, fun K2 => rfl, fun P E vs hl _ w => by cases vs with | nil => rfl | cons => simp at hl⟩
 | x :: l, a, K, r, h => by
  unfold zEc at h
  split at h
  ·rename_i k' b
   split at h
   ·rename_i hk
    subst hk
    obtain ⟨n, h1, h2⟩ := zDm h
    refine ⟨n, fun K2 => (if_pos rfl).trans (h1 K2), fun P E vs hl hv w => ?_⟩
    cases vs with
    | nil => simp at hl
    | cons v vs =>
     have := (hv 0 _ v rfl rfl).int_inv
     subst this
     simp only [List.foldlM_cons, Builtin.max2, Sem.run_bind, Sem.run_pure, Result.andThen_ok]
     exact h2 P E vs (by simpa using hl) (fun j x c hx hc => hv (j + 1) x c (by simpa using hx) (by simpa using hc)) w
   ·cases h
  ·cases h
theorem zDl {k : IntKind} : ∀ {l : List AV} {a : Int} {K : AV → Option R} {r : R}, zEa k a l K = some r →
  ∃ n, (∀ K2 : AV → Option R, zEa k a l K2 = K2 (.int k n)) ∧ ∀ (P : Program) (E : Env) (vs : List Value), vs.length = l.length → (∀ (j : Nat) x c, l[j]? = some x → vs[j]? = some c → VR E true x c) →
   ∀ w, (vs.foldlM Builtin.min2 (.int k a)).run P w = .ok (.int k n) w
 | [], a, K, r, h => ⟨a, fun K2 => rfl, fun P E vs hl _ w => by cases vs with | nil => rfl | cons => simp at hl⟩
 | x :: l, a, K, r, h => by
  unfold zEa at h
  split at h
  ·rename_i k' b
   split at h
   ·rename_i hk
    subst hk
    obtain ⟨n, h1, h2⟩ := zDl h
    refine ⟨n, fun K2 => (if_pos rfl).trans (h1 K2), fun P E vs hl hv w => ?_⟩
    cases vs with
    | nil => simp at hl
    | cons v vs =>
     have := (hv 0 _ v rfl rfl).int_inv
     subst this
     simp only [List.foldlM_cons, Builtin.min2, Sem.run_bind, Sem.run_pure, Result.andThen_ok]
     exact h2 P E vs (by simpa using hl) (fun j x c hx hc => hv (j + 1) x c (by simpa using hx) (by simpa using hc)) w
   ·cases h
  ·cases h
theorem kK {lo hi : Option AV} {n : Nat} {K : Nat → Option Nat → Option R} {r : R} (h : jT lo hi n K = some r) :
  ∃ l h', (∀ K2 : Nat → Option Nat → Option R, jT lo hi n K2 = K2 l h') ∧ l ≤ h'.getD n ∧ h'.getD n ≤ n ∧
   ∀ (P : Program) (E : Env) (lo' hi' : Option Value), (∀ x, lo = some x → ∃ v, lo' = some v ∧ VR E true x v) → (∀ x, hi = some x → ∃ v, hi' = some v ∧ VR E true x v) →
    (lo = none → lo' = none) → (hi = none → hi' = none) → ∀ w b cap, n ≤ cap → (Instr.sliceBounds b n cap lo' hi' none).run P w = .ok (l, h'.getD n, cap) w := by
 unfold jT at h
 split at h <;> (try (cases h; done))
 ·exact ⟨0, none, fun _ => rfl, Nat.zero_le _, Nat.le_refl _, fun P E lo' hi' h1 h2 h3 h4 w b cap hc => by rw [h3 rfl, h4 rfl]; simp [Instr.sliceBounds]⟩
 ·rename_i k l
  split at h <;> (try (cases h; done))
  split at h <;> (try (cases h; done))
  rename_i g1 g2
  refine ⟨l.toNat, none, fun _ => (if_pos g1).trans (if_pos g2), by simp; omega, Nat.le_refl _, fun P E lo' hi' h1 h2 h3 h4 w b cap hc => ?_⟩
  obtain ⟨v, rfl, hv⟩ := h1 _ rfl
  cases hv
  rw [h4 rfl]
  simp [Instr.sliceBounds, Instr.sliceBound, asIntOf, g1, g2]
 ·rename_i k l
  split at h <;> (try (cases h; done))
  split at h <;> (try (cases h; done))
  rename_i g1 g2
  refine ⟨0, some l.toNat, fun _ => (if_pos g1).trans (if_pos g2), Nat.zero_le _, by simp; omega, fun P E lo' hi' h1 h2 h3 h4 w b cap hc => ?_⟩
  obtain ⟨v, rfl, hv⟩ := h2 _ rfl
  cases hv
  rw [h3 rfl]
  have : l ≤ (cap : Int) := by omega
  simp [Instr.sliceBounds, Instr.sliceBound, asIntOf, g1, this]
 ·rename_i k l k2 h'
  split at h <;> (try (cases h; done))
  split at h <;> (try (cases h; done))
  split at h <;> (try (cases h; done))
  split at h <;> (try (cases h; done))
  rename_i g1 g2 g3 g4
  refine ⟨l.toNat, some h'.toNat, fun _ => (if_pos g1).trans ((if_pos g2).trans ((if_pos g3).trans (if_pos g4))), by simp; omega, by simp; omega, fun P E lo' hi' h1 h2 h3 h4 w b cap hc => ?_⟩
  obtain ⟨v, rfl, hv⟩ := h2 _ rfl
  cases hv
  obtain ⟨v, rfl, hv⟩ := h1 _ rfl
  cases hv
  have : h' ≤ (cap : Int) := by omega
  have e : l ≤ max h' 0 := by omega
  simp [Instr.sliceBounds, Instr.sliceBound, asIntOf, g1, g3, this, e]
end
end Go.Abs
end
section
set_option linter.unusedVariables false
set_option linter.unusedSimpArgs false
namespace Go.Abs
open Go
mutual
theorem zDM : ∀ x : AV, yB x x = true
 | .agg kids => by unfold yB; exact zBe kids
 | .ints k n l => by simp [yB]
 | .any | .bool _ | .int _ _ | .str _ | .nilp | .ptr _ _ | .aptr _ _ _ _ | .rptr _ | .snil | .slice _ _ _ _ _ | .own _ _ | .rints _ _ | .robjs _ _ _ | .tup _ | .fn _ _ _ | .nilf | .iface _ _ | .nili | .raw _ | .errv _ _ _ | .rmap _ => by simp [yB]
theorem zBe : ∀ l : List AV, yF l l = true
 | [] => rfl
 | x :: r => by simp [yF, zDM x, zBe r]
end
theorem zCb : ∀ {a b : List AV}, yF a b = true → a.length = b.length
 | [], [], _ => rfl
 | [], _ :: _, h => by simp [yF] at h
 | _ :: _, [], h => by simp [yF] at h
 | x :: a, y :: b, h => by simp [yF] at h; simp [zCb h.2]
mutual
theorem jP : ∀ {x y : AV}, yB x y = true → width x = width y
 | .agg a, .agg b, h => by simp [yB] at h; simp [width, qP h]
 | .ints k n l, .ints k' m r, h => by simp [yB] at h; simp [width, h]
 | .agg a, y, h => by cases y <;> first | (simp [yB] at h; done) | (simp [yB] at h; simp [width, qP h])
 | .ints k n l, y, h => by cases y <;> first | (simp [yB] at h; done) | (simp [yB] at h; simp [width, h])
 | .any, y, h | .bool _, y, h | .int _ _, y, h | .str _, y, h | .nilp, y, h | .ptr _ _, y, h | .aptr _ _ _ _, y, h | .rptr _, y, h | .snil, y, h | .slice _ _ _ _ _, y, h | .own _ _, y, h | .rints _ _, y, h | .robjs _ _ _, y, h
 | .tup _, y, h | .fn _ _ _, y, h | .nilf, y, h | .iface _ _, y, h | .nili, y, h | .raw _, y, h | .errv _ _ _, y, h | .rmap _, y, h => by cases y <;> first | (simp [yB] at h; done) | rfl
theorem qP : ∀ {a b : List AV}, yF a b = true → zX a = zX b
 | [], [], _ => rfl
 | [], _ :: _, h => by simp [yF] at h
 | _ :: _, [], h => by simp [yF] at h
 | x :: a, y :: b, h => by simp [yF] at h; simp [zX, jP h.1, qP h.2]
end
theorem zAr : ∀ {a b : List AV}, yF a b = true → ∀ (i : Nat) x, a[i]? = some x → ∃ y, b[i]? = some y ∧ yB x y = true
 | [], _, _, i, x, hx => by simp at hx
 | _ :: _, [], h, _, _, _ => by simp [yF] at h
 | a0 :: a, b0 :: b, h, 0, x, hx => by simp at hx; subst hx; simp [yF] at h; exact ⟨b0, rfl, h.1⟩
 | a0 :: a, b0 :: b, h, i + 1, x, hx => by simp at hx; simp [yF] at h; obtain ⟨y, h1, h2⟩ := zAr h.2 i x hx; exact ⟨y, by simpa using h1, h2⟩
theorem zBd : ∀ {a b : List AV}, yF a b = true → ∀ i, yF (a.take i) (b.take i) = true
 | [], [], _, i => by simp [yF]
 | [], _ :: _, h, _ => by simp [yF] at h
 | _ :: _, [], h, _ => by simp [yF] at h
 | x :: a, y :: b, h, 0 => rfl
 | x :: a, y :: b, h, i + 1 => by simp [yF] at h; simp [yF, h.1, zBd h.2 i]
theorem zBJ : ∀ {a : List AV} {i : Nat} {x y : AV}, a[i]? = some x → yB x y = true → yF a (a.set i y) = true
 | [], i, x, y, h, _ => by simp at h
 | a0 :: a, 0, x, y, h, hs => by simp at h; subst h; simp [yF, hs, zBe]
 | a0 :: a, i + 1, x, y, h, hs => by simp at h; simp [yF, zDM, zBJ h hs]
def zCj (x : AV) : Prop := (∀ kids, x ≠ .agg kids) ∧ (∀ k n l, x ≠ .ints k n l)
theorem zCm : ∀ {p : List Nat} {x y : AV}, yB x y = true → zL x p = zL y p
 | [], x, y, _ => by simp [zL]
 | i :: p, .agg a, y, h => by
  cases y with
  | agg b =>
   simp only [yB] at h
   simp only [zL]
   cases hx : a[i]? with
   | none =>
    have hl := zCb h
    have : b[i]? = none := by rw [List.getElem?_eq_none_iff] at hx ⊢; omega
    rw [this]
   | some z =>
    obtain ⟨u, hu, hz⟩ := zAr h i z hx
    simp only [hu]
    rw [zCm hz, qP (zBd h i)]
  | _ => simp [yB] at h
 | [i], .ints k n l, y, h => by cases y <;> simp_all [yB, zL]
 | i :: j :: p, .ints k n l, y, h => by cases y <;> simp_all [yB, zL]
 | i :: p, .any, y, h | i :: p, .bool _, y, h | i :: p, .int _ _, y, h | i :: p, .str _, y, h | i :: p, .nilp, y, h | i :: p, .ptr _ _, y, h | i :: p, .aptr _ _ _ _, y, h | i :: p, .rptr _, y, h | i :: p, .snil, y, h
 | i :: p, .slice _ _ _ _ _, y, h | i :: p, .own _ _, y, h | i :: p, .rints _ _, y, h | i :: p, .robjs _ _ _, y, h | i :: p, .tup _, y, h | i :: p, .fn _ _ _, y, h | i :: p, .nilf, y, h | i :: p, .iface _ _, y, h | i :: p, .nili, y, h | i :: p, .raw _, y, h | i :: p, .errv _ _ _, y, h | i :: p, .rmap _, y, h => by
  cases y <;> first | (simp [yB] at h; done) | simp [zL]
theorem zCc : ∀ {p : List Nat} {x y : AV} {k n l}, yB x y = true → zM x p = some (.ints k n l) → ∃ l', zM y p = some (.ints k n l')
 | [], x, y, k, n, l, h, hg => by
  simp [zM] at hg
  subst hg
  cases y <;> simp_all [yB, zM]
 | i :: p, .agg a, y, k, n, l, h, hg => by
  cases y with
  | agg b =>
   simp only [yB] at h
   simp only [zM] at hg ⊢
   split at hg
   ·rename_i z hz
    obtain ⟨u, hu, hz'⟩ := zAr h i z hz
    simp only [hu]
    exact zCc hz' hg
   ·cases hg
  | _ => simp [yB] at h
 | [i], .ints k n l, y, _, _, _, h, hg => by simp [zM] at hg
 | i :: j :: p, .ints k n l, y, _, _, _, h, hg => by simp [zM] at hg
 | i :: p, .any, y, _, _, _, h, hg | i :: p, .bool _, y, _, _, _, h, hg | i :: p, .int _ _, y, _, _, _, h, hg | i :: p, .str _, y, _, _, _, h, hg | i :: p, .nilp, y, _, _, _, h, hg | i :: p, .ptr _ _, y, _, _, _, h, hg
 | i :: p, .aptr _ _ _ _, y, _, _, _, h, hg | i :: p, .rptr _, y, _, _, _, h, hg | i :: p, .snil, y, _, _, _, h, hg | i :: p, .slice _ _ _ _ _, y, _, _, _, h, hg | i :: p, .own _ _, y, _, _, _, h, hg | i :: p, .rints _ _, y, _, _, _, h, hg
 | i :: p, .robjs _ _ _, y, _, _, _, h, hg | i :: p, .tup _, y, _, _, _, h, hg | i :: p, .fn _ _ _, y, _, _, _, h, hg | i :: p, .nilf, y, _, _, _, h, hg | i :: p, .iface _ _, y, _, _, _, h, hg | i :: p, .nili, y, _, _, _, h, hg | i :: p, .raw _, y, _, _, _, h, hg | i :: p, .errv _ _ _, y, _, _, _, h, hg | i :: p, .rmap _, y, _, _, _, h, hg => by simp [zM] at hg
theorem zDh : ∀ {p : List Nat} {v x v' : AV}, kH v p x = some v' → yB v v' = true
 | [], v, x, v', h => by
  unfold kH at h
  split at h
  ·cases h; assumption
  ·cases h
 | i :: p, .agg kids, x, v', h => by
  simp only [kH] at h
  split at h
  ·rename_i y hy
   cases hz : kH y p x with
   | none => simp [hz] at h
   | some z =>
    simp [hz] at h
    subst h
    simp only [yB]
    exact zBJ hy (zDh hz)
  ·cases h
 | [i], .ints k n l, .int k' y, v', h => by
  simp only [kH] at h
  split at h
  ·cases h; simp [yB]
  ·cases h
 | [i], .ints k n l, x, v', h => by
  cases x <;> first | (simp [kH] at h; done) | (simp only [kH] at h; split at h; (cases h; simp [yB]); (cases h))
 | i :: j :: p, .ints k n l, x, v', h => by cases x <;> simp [kH] at h
 | i :: p, .any, x, v', h | i :: p, .bool _, x, v', h | i :: p, .int _ _, x, v', h | i :: p, .str _, x, v', h | i :: p, .nilp, x, v', h | i :: p, .ptr _ _, x, v', h | i :: p, .aptr _ _ _ _, x, v', h | i :: p, .rptr _, x, v', h
 | i :: p, .snil, x, v', h | i :: p, .slice _ _ _ _ _, x, v', h | i :: p, .own _ _, x, v', h | i :: p, .rints _ _, x, v', h | i :: p, .robjs _ _ _, x, v', h | i :: p, .tup _, x, v', h | i :: p, .fn _ _ _, x, v', h | i :: p, .nilf, x, v', h
 | i :: p, .iface _ _, x, v', h | i :: p, .nili, x, v', h | i :: p, .raw _, x, v', h | i :: p, .errv _ _ _, x, v', h | i :: p, .rmap _, x, v', h => by simp [kH] at h
theorem kJ : ∀ {kids : List AV} {i : Nat} {x : AV}, kids[i]? = some x → zG kids = zG (kids.take i) ++ (zH x ++ zG (kids.drop (i + 1)))
 | [], i, x, h => by simp at h
 | y :: r, 0, x, h => by simp at h; subst h; simp [zG]
 | y :: r, i + 1, x, h => by simp at h; simp [zG, kJ h]
theorem Fit.kid {kids : List AV} (h : Fit (.agg kids)) {x : AV} (hx : x ∈ kids) : Fit x := by
 cases h with
 | agg _ h => exact h x hx
 | leaf _ h => exact absurd rfl (h.1 kids)
theorem Fit.len {k n l} (h : Fit (.ints k n l)) : l.length = n := by
 cases h with
 | ints _ _ _ h => exact h
 | leaf _ h => exact absurd rfl (h.2 k n l)
theorem zEK {α β : Type} (f : α → β) (l : List α) (i : Nat) (h : i < l.length) : l.map f = (l.take i).map f ++ (f l[i] :: (l.drop (i + 1)).map f) := by
 have e : l = l.take i ++ l[i] :: l.drop (i + 1) := by rw [← List.drop_eq_getElem_cons h, List.take_append_drop]
 conv => lhs; rw [e]
 simp only [List.map_append, List.map_cons]
theorem kI : ∀ {p : List Nat} {v x : AV} {q : Nat}, Fit v → zM v p = some x → zL v p = some q →
  Fit x ∧ ∃ pre post, zH v = pre ++ (zH x ++ post) ∧ pre.length = q
 | [], v, x, q, hf, hg, ho => by
  simp [zM] at hg; simp [zL] at ho; subst hg; subst ho
  exact ⟨hf, [], [], by simp, rfl⟩
 | i :: p, .agg kids, x, q, hf, hg, ho => by
  simp only [zM] at hg
  simp only [zL] at ho
  split at hg
  ·rename_i y hy
   simp only [hy] at ho
   cases hq : zL y p with
   | none => simp [hq] at ho
   | some q' =>
    simp [hq] at ho
    obtain ⟨h1, pre, post, h2, h3⟩ := kI (hf.kid (List.mem_of_getElem? hy)) hg hq
    refine ⟨h1, zG (kids.take i) ++ pre, post ++ zG (kids.drop (i + 1)), ?_, ?_⟩
    ·simp [zH, kJ hy, h2]
    ·rw [List.length_append, kU fun z hz => hf.kid (List.mem_of_mem_take hz), h3]; exact ho
  ·cases hg
 | [i], .ints k n l, x, q, hf, hg, ho => by
  simp [zM] at hg; simp [zL] at ho
  subst hg
  obtain ⟨hi, rfl⟩ := ho
  have hl := hf.len
  refine ⟨.leaf _ ⟨by simp, by simp⟩, (l.take i).map (.int k), (l.drop (i + 1)).map (.int k), ?_, by simp; omega⟩
  have : i < l.length := by omega
  simp only [zH]
  rw [List.getElem?_eq_getElem this, Option.getD_some]
  exact zEK _ l i this
 | i :: j :: p, .ints k n l, x, q, hf, hg, ho => by simp [zM] at hg
 | i :: p, .any, x, _, _, h, _ | i :: p, .bool _, x, _, _, h, _ | i :: p, .int _ _, x, _, _, h, _ | i :: p, .str _, x, _, _, h, _ | i :: p, .nilp, x, _, _, h, _ | i :: p, .ptr _ _, x, _, _, h, _ | i :: p, .aptr _ _ _ _, x, _, _, h, _
 | i :: p, .rptr _, x, _, _, h, _ | i :: p, .snil, x, _, _, h, _ | i :: p, .slice _ _ _ _ _, x, _, _, h, _ | i :: p, .own _ _, x, _, _, h, _ | i :: p, .rints _ _, x, _, _, h, _ | i :: p, .robjs _ _ _, x, _, _, h, _ | i :: p, .tup _, x, _, _, h, _
 | i :: p, .fn _ _ _, x, _, _, h, _ | i :: p, .nilf, x, _, _, h, _ | i :: p, .iface _ _, x, _, _, h, _ | i :: p, .nili, x, _, _, h, _ | i :: p, .raw _, x, _, _, h, _ | i :: p, .errv _ _ _, x, _, _, h, _ | i :: p, .rmap _, x, _, _, h, _ => by simp [zM] at h
theorem zJp {kids : List AV} {i : Nat} {z : AV} (h : ∀ x ∈ kids, Fit x) (hz : Fit z) : ∀ x ∈ kids.set i z, Fit x := fun x hx => by
 rcases List.mem_or_eq_of_mem_set hx with h' | h'
 ·exact h x h'
 ·subst h'; exact hz
theorem zHm {kids : List AV} {i : Nat} {x z : AV} (h : kids[i]? = some x) : zG (kids.set i z) = zG (kids.take i) ++ (zH z ++ zG (kids.drop (i + 1))) := by
 have hi := (List.getElem?_eq_some_iff.1 h).1
 have : (kids.set i z)[i]? = some z := by simp [hi]
 rw [kJ this]
 simp [List.take_set_of_le (Nat.le_refl i), List.drop_set_of_lt (Nat.lt_succ_self i)]
theorem zDN : ∀ {p : List Nat} {v x v' : AV} {q : Nat}, Fit v → Fit x → kH v p x = some v' → zL v p = some q →
  Fit v' ∧ ∃ pre mid post, zH v = pre ++ (mid ++ post) ∧ zH v' = pre ++ (zH x ++ post) ∧ pre.length = q ∧ mid.length = (zH x).length
 | [], v, x, v', q, hf, hx, hs, ho => by
  unfold kH at hs
  split at hs
  ·rename_i h
   cases hs
   simp [zL] at ho; subst ho
   exact ⟨hx, [], zH v, [], by simp, by simp, rfl, by rw [hf.length, hx.length, jP h]⟩
  ·cases hs
 | i :: p, .agg kids, x, v', q, hf, hx, hs, ho => by
  simp only [kH] at hs
  simp only [zL] at ho
  split at hs
  ·rename_i y hy
   simp only [hy] at ho
   cases hq : zL y p with
   | none => simp [hq] at ho
   | some q' =>
    simp [hq] at ho
    cases hz : kH y p x with
    | none => simp [hz] at hs
    | some z =>
     simp [hz] at hs
     subst hs
     obtain ⟨h1, pre, mid, post, h2, h3, h4, h5⟩ := zDN (hf.kid (List.mem_of_getElem? hy)) hx hz hq
     refine ⟨.agg _ (zJp (fun x hx => hf.kid hx) h1), zG (kids.take i) ++ pre, mid, post ++ zG (kids.drop (i + 1)), ?_, ?_, ?_, h5⟩
     ·simp [zH, kJ hy, h2]
     ·simp [zH, zHm hy, h3]
     ·rw [List.length_append, kU fun z hz => hf.kid (List.mem_of_mem_take hz), h4]; exact ho
  ·cases hs
 | [i], .ints k n l, x, v', q, hf, hx, hs, ho => by
  cases x <;> first | (simp [kH] at hs; done) | skip
  rename_i k' y
  simp only [kH] at hs
  split at hs
  ·rename_i hk
   subst hk
   cases hs
   simp [zL] at ho
   obtain ⟨hi, rfl⟩ := ho
   have hl := hf.len
   have : i < l.length := by omega
   refine ⟨.ints _ _ _ (by simpa using hl), (l.take i).map (.int k), [.int k l[i]], (l.drop (i + 1)).map (.int k), ?_, ?_, by simp; omega, by simp [zH]⟩
   ·exact zEK _ l i this
   ·simp only [zH, List.set_eq_take_append_cons_drop, if_pos this]
    simp
  ·cases hs
 | i :: j :: p, .ints k n l, x, v', q, hf, hx, hs, ho => by cases x <;> simp [kH] at hs
 | i :: p, .any, x, _, _, _, _, h, _ | i :: p, .bool _, x, _, _, _, _, h, _ | i :: p, .int _ _, x, _, _, _, _, h, _ | i :: p, .str _, x, _, _, _, _, h, _ | i :: p, .nilp, x, _, _, _, _, h, _ | i :: p, .ptr _ _, x, _, _, _, _, h, _ | i :: p, .aptr _ _ _ _, x, _, _, _, _, h, _
 | i :: p, .rptr _, x, _, _, _, _, h, _ | i :: p, .snil, x, _, _, _, _, h, _ | i :: p, .slice _ _ _ _ _, x, _, _, _, _, h, _ | i :: p, .own _ _, x, _, _, _, _, h, _ | i :: p, .rints _ _, x, _, _, _, _, h, _ | i :: p, .robjs _ _ _, x, _, _, _, _, h, _
 | i :: p, .tup _, x, _, _, _, _, h, _ | i :: p, .fn _ _ _, x, _, _, _, _, h, _ | i :: p, .nilf, x, _, _, _, _, h, _ | i :: p, .iface _ _, x, _, _, _, _, h, _ | i :: p, .nili, x, _, _, _, _, h, _ | i :: p, .raw _, x, _, _, _, _, h, _ | i :: p, .errv _ _ _, x, _, _, _, _, h, _ | i :: p, .rmap _, x, _, _, _, _, h, _ => by simp [kH] at h
end Go.Abs
end
section
set_option linter.unusedVariables false
set_option linter.unusedSimpArgs false
namespace Go.Abs
open Go
theorem info_of_underlying {P : Program} {t : TypeId} {d : TypeDesc} (h : P.underlying t = some d) : ∃ i, P.info? t = some i := by
 unfold Program.underlying at h
 split at h
 ·exact ⟨_, ‹_›⟩
 ·exact ⟨_, ‹_›⟩
 ·cases h
theorem yW {P : Program} {t : TypeId} {d : TypeDesc} (h : P.underlying t = some d) (w : World) : (sizeOf t).run P w = .ok (zP P t) w := by
 obtain ⟨i, hi⟩ := info_of_underlying h
 simp [sizeOf, typeInfo, hi, zP]
theorem zLn {P : Program} {t : TypeId} {d : TypeDesc} (h : P.underlying t = some d) : (P.info? t).map (·.size) = some (zP P t) := by
 obtain ⟨i, hi⟩ := info_of_underlying h
 simp [hi, zP]
theorem yU {P : Program} : ∀ {f : Nat} {t : TypeId} {x : AV}, yJ P f t x = true → ∃ d, P.underlying t = some d ∧ zP P t = width x ∧
  ((zCj x ∧ d.isRow = false) ∨ (d.isRow = true ∧ ((∃ kids, x = .agg kids) ∨ ∃ k n l, x = .ints k n l)))
 | 0, t, x, h => by simp [yJ] at h
 | f + 1, t, x, h => by
  unfold yJ at h
  split at h <;> simp only [Bool.and_eq_true, beq_iff_eq, decide_eq_true_eq, Bool.false_eq_true] at h
  all_goals rename_i hu
  all_goals first
   | exact ⟨_, hu, h, .inl ⟨⟨by simp, by simp⟩, rfl⟩⟩
   | exact ⟨_, hu, h.2, .inl ⟨⟨by simp, by simp⟩, rfl⟩⟩
   | exact ⟨_, hu, by rw [h.2]; simp [width, h.1], .inr ⟨rfl, .inr ⟨_, _, _, rfl⟩⟩⟩
   | exact ⟨_, hu, by rw [h.2]; rfl, .inr ⟨rfl, .inl ⟨_, rfl⟩⟩⟩
theorem zAy {P : Program} {t : TypeId} {d : TypeDesc} (h : P.underlying t = some d) (w : World) : (isAgg t).run P w = .ok d.isRow w := by
 unfold isAgg
 rw [Sem.run_bind, run_underlying h w]
 cases d <;> rfl
theorem zCj.one {x : AV} (h : zCj x) : zH x = [x] ∧ width x = 1 := ⟨(zAA h).2, (zAA h).1⟩
theorem zBQ {P : Program} {E : Env} {o : Bool} {f t b q : Nat} {x : AV} (hc : yJ P f t x = true) (hf : Fit x)
  (h : ∀ (j : Nat) y, (zH x)[j]? = some y → ∃ v, E.cell b (q + j) = some v ∧ VR E o y v) : ∃ v, (loadVar t ⟨b, q, none⟩).run P E.w = .ok v E.w ∧ VR E o x v := by
 obtain ⟨d, hu, hs, hr⟩ := yU hc
 rcases hr with ⟨hl, hd⟩ | ⟨hd, hr⟩
 ·obtain ⟨h1, h2⟩ := hl.one
  obtain ⟨v, hv, hvr⟩ := h 0 x (by rw [h1]; rfl)
  refine ⟨v, ?_, hvr⟩
  have : E.w.cell? ⟨b, q, none⟩ = some v := hv
  simp [loadVar, zAy hu, hd, this]
 ·have hlen := hf.length
  have hall : ∀ j, ∃ v, ∀ y, (zH x)[j]? = some y → E.cell b (q + j) = some v ∧ VR E o y v := fun j => by
   cases hy : (zH x)[j]? with
   | none => exact ⟨undef, fun y h => by simp at h⟩
   | some y => obtain ⟨v, h1, h2⟩ := h j y hy; exact ⟨v, fun z hz => by simp at hz; subst hz; exact ⟨h1, h2⟩⟩
  obtain ⟨vv, hvv⟩ := Classical.axiomOfChoice hall
  let cs : List Value := (List.range (width x)).map vv
  have hcs : ∀ (j : Nat) v, cs[j]? = some v → ∃ y, (zH x)[j]? = some y ∧ v = vv j := fun j v hv => by
   have hj := (List.getElem?_eq_some_iff.1 hv).1
   simp [cs] at hj
   rw [List.getElem?_map, List.getElem?_range (by omega)] at hv
   simp at hv
   exact ⟨_, List.getElem?_eq_getElem (by omega), hv.symm⟩
  have hrange : E.w.rangeAt b q cs := fun j v hv => by
   obtain ⟨y, hy, rfl⟩ := hcs j v hv
   exact (hvv j y hy).1
  have hload := run_loadVar_mid (P := P) E.w b q t cs d hrange hu hd (by rw [zLn hu, hs]; simp [cs])
  refine ⟨_, hload, ?_⟩
  rcases hr with ⟨kids, rfl⟩ | ⟨k, n, l, rfl⟩
  ·refine .agg _ _ _ hf (by simp [cs, ← hlen, zH]) fun j y c hy hc => ?_
   have hc' : cs[j]? = some c := by simpa using hc
   obtain ⟨z, hz, rfl⟩ := hcs j c hc'
   exact (hvv j y hy).2
  ·have hn := hf.len
   have : cs = l.map (Value.int k) := by
    apply List.ext_getElem?
    intro j
    cases hc : cs[j]? with
    | none =>
     have : l.length ≤ j := by have := List.getElem?_eq_none_iff.1 hc; simp [cs, width] at this; omega
     rw [List.getElem?_eq_none (by simpa using this)]
    | some c =>
     obtain ⟨z, hz, rfl⟩ := hcs j c hc
     obtain ⟨_, h2⟩ := hvv j z hz
     simp only [zH, List.getElem?_map] at hz
     cases hlj : l[j]? with
     | none => simp [hlj] at hz
     | some m =>
      simp [hlj] at hz
      subst hz
      rw [h2.int_inv]
      simp [hlj]
   rw [this]
   exact .ints _ _ _ _ hn
theorem zHn {kids : List AV} {y : AV} (h : y ∈ zG kids) : ∃ x ∈ kids, y ∈ zH x := by
 induction kids with
 | nil => simp [zG] at h
 | cons x r ih =>
  simp only [zG, List.mem_append] at h
  rcases h with h | h
  ·exact ⟨x, by simp, h⟩
  ·obtain ⟨z, h1, h2⟩ := ih h; exact ⟨z, by simp [h1], h2⟩
mutual
theorem zDs : ∀ {x : AV}, solid x = true → ∀ y ∈ zH x, solid y = true ∧ zCj y
 | .agg kids, h, y, hy => by simp only [solid] at h; simp only [zH] at hy; exact zFk h y hy
 | .ints k n l, h, y, hy => by
  simp only [zH, List.mem_map] at hy
  obtain ⟨m, _, rfl⟩ := hy
  exact ⟨rfl, by simp, by simp⟩
 | .any, h, y, hy | .tup _, h, y, hy => by simp [solid] at h
 | .bool _, h, y, hy | .int _ _, h, y, hy | .str _, h, y, hy | .nilp, h, y, hy | .ptr _ _, h, y, hy | .aptr _ _ _ _, h, y, hy | .rptr _, h, y, hy | .snil, h, y, hy | .slice _ _ _ _ _, h, y, hy | .own _ _, h, y, hy
 | .rints _ _, h, y, hy | .robjs _ _ _, h, y, hy | .fn _ _ _, h, y, hy | .nilf, h, y, hy | .iface _ _, h, y, hy | .nili, h, y, hy | .raw _, h, y, hy | .errv _ _ _, h, y, hy | .rmap _, h, y, hy => by simp [zH] at hy; subst hy; exact ⟨rfl, by simp, by simp⟩
theorem zFk : ∀ {l : List AV}, zBI l = true → ∀ y ∈ zG l, solid y = true ∧ zCj y
 | [], h, y, hy => by simp [zG] at hy
 | x :: r, h, y, hy => by
  simp [zBI] at h
  simp only [zG, List.mem_append] at hy
  rcases hy with hy | hy
  ·exact zDs h.1 y hy
  ·exact zFk h.2 y hy
end
theorem VR.oneCell {E : Env} {o : Bool} {y : AV} {c : Value} (h : VR E o y c) (hs : solid y = true) (hl : zCj y) : c.oneCell' = true := by
 cases h <;> first
  | rfl
  | assumption
  | (simp [solid] at hs; done)
  | (rename_i h; cases h.ch <;> rfl)
  | exact absurd rfl (hl.1 _)
  | exact absurd rfl (hl.2 _ _ _)
theorem VR.cells {E : Env} {o : Bool} {x : AV} {v : Value} (h : VR E o x v) (hx : x ≠ .any ∧ ∀ vs, x ≠ .tup vs) :
  Fit x ∧ v.cells.size = (zH x).length ∧ ∀ (j : Nat) y c, (zH x)[j]? = some y → v.cells[j]? = some c → VR E o y c := by
 have leaf : ∀ {x : AV} {v : Value}, VR E o x v → zCj x → v.cells = #[v] → Fit x ∧ v.cells.size = (zH x).length ∧ ∀ (j : Nat) y c, (zH x)[j]? = some y → v.cells[j]? = some c → VR E o y c := fun {x v} h hl hc => by
  rw [hc, hl.one.1]
  refine ⟨.leaf _ hl, rfl, fun j y c hy hc => ?_⟩
  cases j with
  | zero => simp at hy hc; subst hy; subst hc; exact h
  | succ j => simp at hy
 cases h with
 | any => exact absurd rfl hx.1
 | tup => exact absurd rfl (hx.2 _)
 | agg _ kids cs hf hs h => exact ⟨hf, hs, h⟩
 | ints _ k n l h =>
  refine ⟨.ints _ _ _ h, by simp [Value.cells, zH], fun j y c hy hc => ?_⟩
  simp only [zH, List.getElem?_map] at hy
  simp [Value.cells] at hc
  cases hl : l[j]? with
  | none => simp [hl] at hy
  | some m => simp [hl] at hy hc; subst hy; subst hc; exact .int _ _ _
 | raw _ v h1 h2 => exact leaf (.raw _ v h1 h2) ⟨by simp, by simp⟩ h1
 | errv _ _ _ _ v h => exact leaf (.errv _ _ _ _ v h) ⟨by simp, by simp⟩ (by cases h.ch <;> rfl)
 | rmap o l r es c hr hh hs hst hl hk hv => exact leaf (.rmap o l r es c hr hh hs hst hl hk hv) ⟨by simp, by simp⟩ rfl
 | _ => first
  | exact leaf (by constructor <;> assumption) ⟨by simp, by simp⟩ rfl
  | exact leaf (by constructor) ⟨by simp, by simp⟩ rfl
  | skip
theorem zII {P : Program} {E : Env} {o : Bool} {f t b q : Nat} {x : AV} {v : Value} (hc : yJ P f t x = true) (hs : solid x = true) (hv : VR E o x v)
  (h : ∀ j, j < width x → (E.cell b (q + j)).isSome = true ∧ E.w.frozen? ⟨b, q + j, none⟩ = false) :
  (storeVar t ⟨b, q, none⟩ v).run P E.w = .ok () (E.w.setCells b q v.cells.toList) := by
 obtain ⟨d, hu, hsz, _⟩ := yU hc
 obtain ⟨hf, h1, h2⟩ := hv.cells ⟨fun e => by subst e; simp [solid] at hs, fun vs e => by subst e; simp [solid] at hs⟩
 have hl := hf.length
 have hrun := run_storeCells_cells (P := P) b q v.cells.toList 0 E.w (fun j hj => by
   have := (h j (by simp at hj; omega)).1
   rw [Nat.add_zero]; exact this) (fun j hj => by
   have := (h j (by simp at hj; omega)).2
   rw [Nat.add_zero]; exact this) (fun c hcm => by
   obtain ⟨j, hj⟩ := List.mem_iff_getElem?.1 hcm
   have hjl := (List.getElem?_eq_some_iff.1 hj).1
   have hy : (zH x)[j]? = some ((zH x)[j]'(by simp at hjl; omega)) := List.getElem?_eq_getElem (by simp at hjl; omega)
   obtain ⟨g1, g2⟩ := zDs hs _ (List.mem_of_getElem? hy)
   exact (h2 j _ c hy (by simpa using hj)).oneCell g1 g2)
 unfold storeVar
 rw [Sem.run_bind, yW hu, Result.andThen_ok, if_neg (by omega)]
 simpa using hrun
theorem zBu {blk : Blk} {p : List Nat} {x : AV} {q : Nat} (hf : zCS blk) (hg : zCB blk p = some x) (ho : yS blk p = some q) :
  Fit x ∧ ∀ (j : Nat) y, (zH x)[j]? = some y → (zJ blk)[q + j]? = some y := by
 cases blk with
 | free => simp [yS] at ho
 | mp l => simp [yS] at ho
 | var v =>
  obtain ⟨h1, pre, post, h2, h3⟩ := kI hf hg ho
  refine ⟨h1, fun j y hy => ?_⟩
  simp only [zJ, h2]
  have hj := (List.getElem?_eq_some_iff.1 hy).1
  rw [List.getElem?_append_right (by omega), List.getElem?_append_left (by omega), ← h3]
  simpa using hy
 | ints k l =>
  cases p with
  | nil => simp [zCB] at hg
  | cons i p =>
   cases p with
   | nil =>
    simp [zCB] at hg; simp [yS] at ho
    subst hg
    obtain ⟨hi, rfl⟩ := ho
    refine ⟨.leaf _ ⟨by simp, by simp⟩, fun j y hy => ?_⟩
    cases j with
    | zero => simp [zH] at hy; subst hy; simp [zJ, hi]
    | succ j => simp [zH] at hy
   | cons => simp [zCB] at hg
 | objs e w l =>
  cases p with
  | nil => simp [zCB] at hg
  | cons i p =>
   simp only [zCB] at hg
   simp only [yS] at ho
   cases hx : l[i]? with
   | none => simp [hx] at ho
   | some z =>
    simp only [hx] at ho
    cases hq : zL z p with
    | none => simp [hq] at ho
    | some q' =>
     simp [hq] at ho
     have hz : l.getD i .any = z := by simp [hx]
     rw [hz] at hg
     obtain ⟨g1, g2⟩ := (hf z (List.mem_of_getElem? hx)).1
     obtain ⟨h1, pre, post, h2, h3⟩ := kI g1 hg hq
     refine ⟨h1, fun j y hy => ?_⟩
     have hj := (List.getElem?_eq_some_iff.1 hy).1
     have htk : (zG (l.take i)).length = i * w := by
      have : ∀ (n : Nat), n ≤ l.length → (zG (l.take n)).length = n * w := by
       intro n
       induction n with
       | zero => intro _; simp [zG]
       | succ n ih =>
        intro hn
        rw [List.take_succ_eq_append_getElem (by omega), jN, List.length_append, ih (by omega)]
        obtain ⟨k1, k2⟩ := (hf l[n] (List.getElem_mem _)).1
        simp only [zG, List.append_nil]
        rw [k1.length, k2, Nat.succ_mul]
      exact this i (Nat.le_of_lt (List.getElem?_eq_some_iff.1 hx).1)
     simp only [zJ, kJ hx, h2]
     rw [List.getElem?_append_right (by omega), List.getElem?_append_left (by simp; omega), List.getElem?_append_right (by omega), List.getElem?_append_left (by omega)]
     rw [show q + j - (zG (List.take i l)).length - pre.length = j from by omega]
     exact hy
theorem zEF {v v' : AV} (h : yB v v' = true) : (∀ p q, yS (.var v) p = some q → yS (.var v') p = some q) ∧ (∀ p r, zZ (.var v) p = some r → zZ (.var v') p = some r) := by
 refine ⟨fun p q hq => by simp only [yS] at hq ⊢; rw [← zCm h]; exact hq, fun p r hr => ?_⟩
 simp only [zZ] at hr ⊢
 rw [← zCm h]
 split at hr
 ·rename_i k n l q hg ho
  obtain ⟨l', hl'⟩ := zCc h hg
  rw [hl', ho]
  exact hr
 ·cases hr
theorem zAx {blk blk' : Blk} {p : List Nat} {x : AV} {q : Nat} (hf : zCS blk) (hx : Fit x) (hs : zBK blk p x = some blk') (ho : yS blk p = some q) :
  zCS blk' ∧ (∃ pre mid post, zJ blk = pre ++ (mid ++ post) ∧ zJ blk' = pre ++ (zH x ++ post) ∧ pre.length = q ∧ mid.length = (zH x).length) ∧
   (∀ p q, yS blk p = some q → yS blk' p = some q) ∧ (∀ p r, zZ blk p = some r → zZ blk' p = some r) := by
 cases blk with
 | var v =>
  simp only [zBK] at hs
  split at hs
  ·rename_i v' hv'
   cases hs
   obtain ⟨h1, h2⟩ := zDN hf hx hv' ho
   have h3 := zEF (zDh hv')
   exact ⟨h1, h2, h3.1, h3.2⟩
  ·cases hs
 | ints k l =>
  cases p with
  | nil => cases x <;> simp [zBK] at hs
  | cons i p =>
   cases p with
   | cons => cases x <;> simp [zBK] at hs
   | nil =>
    cases x <;> first | (simp [zBK] at hs; done) | skip
    rename_i k' y
    simp only [zBK] at hs
    split at hs
    ·rename_i hk
     subst hk
     cases hs
     simp [yS] at ho
     obtain ⟨hi, rfl⟩ := ho
     refine ⟨trivial, ⟨(l.take i).map (.int k), [.int k l[i]], (l.drop (i + 1)).map (.int k), zEK _ l i hi, ?_, by simp; omega, by simp [zH]⟩, ?_, ?_⟩
     ·simp only [zJ, List.set_eq_take_append_cons_drop, if_pos hi]
      simp [zH]
     ·intro p q hq
      cases p with
      | nil => simp [yS] at hq
      | cons a p => cases p with
       | nil => simpa [yS] using hq
       | cons => simp [yS] at hq
     ·intro p r hr
      cases p with
      | nil => simpa [zZ] using hr
      | cons => simp [zZ] at hr
    ·cases hs
 | objs e w l => simp [zBK] at hs
 | free => simp [zBK] at hs
 | mp l => simp [zBK] at hs
theorem wI {blk blk' : Blk} {p : List Nat} {x : AV} (h : zBK blk p x = some blk') : wB blk = false ∧ wB blk' = false := by
 unfold zBK at h
 split at h
 ·split at h <;> (try (cases h; done))
  cases h; exact ⟨rfl, rfl⟩
 ·split at h <;> (try (cases h; done))
  cases h; exact ⟨rfl, rfl⟩
 ·cases h
end Go.Abs
end
section
set_option linter.unusedVariables false
set_option linter.unusedSimpArgs false
namespace Go.Abs
open Go
section
variable {R : Type}
abbrev z9 (R : Type) := Cat → AV → zC → Option R
structure KS (F : zC → z9 R → Option R) (bl : zC) (cat : Cat) (v : AV) (bl' : zC) : Prop where
 det : ∀ K, F bl K = K cat v bl'
 pure : cat = .pure → bl' = bl ∧ ∀ bl2 K, F bl2 K = K .pure v bl2
 read : cat = .read → bl' = bl
theorem KS.ofPure {F : zC → z9 R → Option R} {bl : zC} {v : AV} (h : ∀ bl K, F bl K = K .pure v bl) : KS F bl .pure v bl := ⟨h bl, fun _ => ⟨rfl, h⟩, fun h => by cases h⟩
theorem KS.ofRead {F : zC → z9 R → Option R} {bl : zC} {v : AV} (h : ∀ K, F bl K = K .read v bl) : KS F bl .read v bl := ⟨h, fun h => (by cases h), fun _ => rfl⟩
theorem KS.ofWrite {F : zC → z9 R → Option R} {bl bl' : zC} {v : AV} (h : ∀ K, F bl K = K .write v bl') : KS F bl .write v bl' := ⟨h, fun h => (by cases h), fun h => (by cases h)⟩
variable {C : Ctx}
theorem VR.loc_ptr {E : Env} {id : Nat} {p : List Nat} {v : Value} (h : VR E true (.ptr id p) v) {blk : Blk} (hb : zF E.bl id = some blk) :
  ∃ q, yS blk p = some q ∧ v = .pointer (some ⟨(E.loc id).1, (E.loc id).2.1 + q, none⟩) := by
 cases h with
 | ptr _ _ a hid h =>
  obtain ⟨h1, q, h2, h3, h4⟩ := h blk hb
  obtain ⟨b, o, s⟩ := a
  simp at h1 h3 h4
  subst h1; subst h3; subst h4
  exact ⟨q, h2, rfl⟩
theorem zDP {v : AV} {p : List Nat} {k n l q w c} (hg : zM v p = some (.ints k n l)) (hr : zZ (.var v) p = some (q, w, c)) : zL v p = some q ∧ w = 1 ∧ c = n := by
 simp only [zZ, hg] at hr
 split at hr
 ·rename_i q' h1 h2
  simp at h1 hr
  exact ⟨by rw [h2, hr.1], hr.2.1.symm, by rw [← hr.2.2]; exact h1.2.1.symm⟩
 ·cases hr
structure Same (x y : AV) : Prop where
 fit : Fit x → Fit y
 width : width y = width x
 len : (zH y).length = (zH x).length
 vr : ∀ (j : Nat) z z', (zH x)[j]? = some z → (zH y)[j]? = some z' → ∀ E o v, VR E o z v → VR E o z' v
theorem Same.refl (x : AV) : Same x x := ⟨id, rfl, rfl, fun j z z' h h' E o v hv => by rw [h] at h'; cases h'; exact hv⟩
theorem zDf {E : Env} {o : Bool} {k : IntKind} {v : Value} (h : VR E o .snil v) : VR E o (.rints k []) v := by
 cases h
 exact .rints o k [] none 0 (Nat.le_refl _) fun i hi => by simp at hi
theorem zDe {E : Env} {o : Bool} {e w : Nat} {v : Value} (h : VR E o .snil v) : VR E o (.robjs e w []) v := by
 cases h
 exact .robjs o e w [] none 0 (Nat.le_refl _) (fun x hx => by simp at hx) (fun _ _ => undef) (fun h => absurd rfl h) (fun ad i x j y _ hx => by simp at hx) (fun i x j y hx => by simp at hx)
theorem Same.leaf {x y : AV} (hx : zCj x) (hy : zCj y) (h : ∀ E o v, VR E o x v → VR E o y v) : Same x y :=
 ⟨fun _ => .leaf _ hy, by rw [hx.one.2, hy.one.2], by rw [hx.one.1, hy.one.1]; rfl, fun j z z' h1 h2 E o v hv => by
  rw [hx.one.1] at h1; rw [hy.one.1] at h2
  cases j with
  | zero => simp at h1 h2; subst h1; subst h2; exact h E o v hv
  | succ j => simp at h1⟩
theorem zIM : ∀ {xs ys : List AV}, ys.length = xs.length → (∀ (i : Nat) x y, xs[i]? = some x → ys[i]? = some y → Same x y) → Same (.agg xs) (.agg ys)
 | [], [], _, _ => .refl _
 | [], _ :: _, hl, _ => by simp at hl
 | _ :: _, [], hl, _ => by simp at hl
 | x :: kids, y :: ys, hl, h => by
  have h2 := h 0 x y rfl rfl
  have h4 := zIM (xs := kids) (ys := ys) (by simpa using hl) fun i a b h1 h2 => h (i + 1) a b (by simpa using h1) (by simpa using h2)
  refine ⟨fun hf => .agg _ fun z hz => ?_, ?_, ?_, fun j z z' hz hz' E o v hv => ?_⟩
  ·rcases List.mem_cons.1 hz with rfl | hz
   ·exact h2.fit (hf.kid (by simp))
   ·exact (h4.fit (.agg _ fun u hu => hf.kid (by simp [hu]))).kid hz
  ·have := h4.width
   simp only [Go.Abs.width, zX] at this ⊢
   rw [h2.width, this]
  ·have := h4.len
   simp only [zH, zG, List.length_append] at this ⊢
   rw [h2.len, this]
  ·simp only [zH, zG] at hz hz'
   rcases Nat.lt_or_ge j (zH x).length with hj | hj
   ·rw [List.getElem?_append_left hj] at hz
    rw [List.getElem?_append_left (by rw [h2.len]; exact hj)] at hz'
    exact h2.vr j z z' hz hz' E o v hv
   ·rw [List.getElem?_append_right hj] at hz
    rw [List.getElem?_append_right (by rw [h2.len]; exact hj), h2.len] at hz'
    exact h4.vr _ z z' hz hz' E o v hv
inductive Sim : AV → AV → Prop where
 | refl (x) : Sim x x
 | nilr (k) : Sim .snil (.rints k [])
 | nilo (e w) : Sim .snil (.robjs e w [])
 | agg (xs ys : List AV) (hl : ys.length = xs.length) (h : ∀ (i : Nat) x y, xs[i]? = some x → ys[i]? = some y → Sim x y) : Sim (.agg xs) (.agg ys)
theorem Sim.same {x y : AV} (h : Sim x y) : Same x y := by
 induction h with
 | refl x => exact .refl x
 | nilr k => exact .leaf ⟨by simp, by simp⟩ ⟨by simp, by simp⟩ fun E o v hv => zDf hv
 | nilo e w => exact .leaf ⟨by simp, by simp⟩ ⟨by simp, by simp⟩ fun E o v hv => zDe hv
 | agg xs ys hl h ih => exact zIM hl ih
theorem zDH : ∀ {xs ys : List AV}, ys.length = xs.length → (∀ (i : Nat) x y, xs[i]? = some x → ys[i]? = some y → width y = width x) → ∀ k, zX (ys.take k) = zX (xs.take k)
 | [], [], _, _, k => rfl
 | [], _ :: _, hl, _, _ => by simp at hl
 | _ :: _, [], hl, _, _ => by simp at hl
 | x :: kids, y :: ys, hl, h, 0 => rfl
 | x :: kids, y :: ys, hl, h, k + 1 => by
  simp only [List.take_succ_cons, zX]
  rw [h 0 x y rfl rfl, zDH (by simpa using hl) (fun i a b h1 h2 => h (i + 1) a b (by simpa using h1) (by simpa using h2)) k]
theorem Sim.off {x y : AV} (h : Sim x y) : ∀ p, zL y p = zL x p := by
 induction h with
 | refl x => exact fun p => rfl
 | nilr k => intro p; cases p <;> simp [zL]
 | nilo e w => intro p; cases p <;> simp [zL]
 | agg xs ys hl h ih =>
  intro p
  cases p with
  | nil => simp [zL]
  | cons i p =>
   simp only [zL]
   rcases Nat.lt_or_ge i xs.length with hi | hi
   ·have h1 : xs[i]? = some xs[i] := List.getElem?_eq_getElem hi
    have h2 : ys[i]? = some ys[i] := List.getElem?_eq_getElem (by omega)
    rw [h1, h2]
    simp only
    rw [ih i _ _ h1 h2 p, zDH hl (fun i a b h1 h2 => (h i a b h1 h2).same.width) i]
   ·rw [List.getElem?_eq_none hi, List.getElem?_eq_none (by omega)]
theorem Sim.get {x y : AV} (h : Sim x y) : ∀ {p : List Nat} {z' : AV}, zM y p = some z' → ∃ z, zM x p = some z ∧ Sim z z' := by
 induction h with
 | refl x => exact fun {p z'} h => ⟨z', h, .refl _⟩
 | nilr k =>
  intro p z' h
  cases p with
  | nil => simp [zM] at h; subst h; exact ⟨.snil, rfl, .nilr k⟩
  | cons i p => simp [zM] at h
 | nilo e w =>
  intro p z' h
  cases p with
  | nil => simp [zM] at h; subst h; exact ⟨.snil, rfl, .nilo e w⟩
  | cons i p => simp [zM] at h
 | agg xs ys hl h ih =>
  intro p z' hg
  cases p with
  | nil => simp [zM] at hg; subst hg; exact ⟨.agg xs, rfl, .agg xs ys hl h⟩
  | cons i p =>
   simp only [zM] at hg ⊢
   rcases Nat.lt_or_ge i xs.length with hi | hi
   ·have h1 : xs[i]? = some xs[i] := List.getElem?_eq_getElem hi
    have h2 : ys[i]? = some ys[i] := List.getElem?_eq_getElem (by omega)
    rw [h2] at hg
    rw [h1]
    exact ih i _ _ h1 h2 hg
   ·rw [List.getElem?_eq_none (by omega)] at hg
    cases hg
theorem zCJ {dec : TypeId → AV → (AV → Option R) → Option R}
  (hd : ∀ t x (K : AV → Option R) r, dec t x K = some r → ∃ y, (∀ K2 : AV → Option R, dec t x K2 = K2 y) ∧ Sim x y) :
  ∀ {ts : List TypeId} {i : Nat} {kids : List AV} {K : List AV → Option R} {r : R}, kids.length = i + ts.length → zEr dec ts i kids K = some r →
   ∃ ys, (∀ K2 : List AV → Option R, zEr dec ts i kids K2 = K2 ys) ∧ ys.length = ts.length ∧ ∀ (j : Nat) x y, kids[i + j]? = some x → ys[j]? = some y → Sim x y
 | [], i, kids, K, r, hl, h => ⟨[], fun _ => rfl, rfl, fun j x y h1 h2 => by simp at h2⟩
 | a :: ts, i, kids, K, r, hl, h => by
  simp only [List.length_cons] at hl
  simp only [zEr] at h
  obtain ⟨y, h1, h2⟩ := hd _ _ _ _ h
  rw [h1] at h
  obtain ⟨ys, h3, h4, h5⟩ := zCJ hd (by omega) h
  refine ⟨y :: ys, fun K2 => by simp only [zEr]; rw [h1, h3], by simp [h4], fun j u v hu hv => ?_⟩
  cases j with
  | zero =>
   simp at hv hu
   subst hv
   have : kids.getD i .any = u := by simp [List.getD_eq_getElem?_getD, hu]
   rwa [this] at h2
  | succ j =>
   simp at hv
   exact h5 j u v (by rw [← hu]; congr 1; omega) hv
theorem zGS {n : Nat} {x : AV} {l : List AV} (h : tkAgg n x = some l) : x = .agg l ∧ l.length = n := by
 unfold tkAgg at h
 split at h <;> (try (cases h; done))
 split at h <;> (try (cases h; done))
 cases h
 rename_i h
 exact ⟨rfl, h⟩
theorem qA {T R : Type} {x : Option T} {f : T → Option R} {r : R} (h : zD x f = some r) : ∃ t, x = some t ∧ f t = some r := by
 cases x with
 | none => cases h
 | some t => exact ⟨t, rfl, h⟩
theorem zAP {P : Program} : ∀ {n : Nat} {t : TypeId} {x : AV} {K : AV → Option R} {r : R}, zBi P n t x K = some r → ∃ y, (∀ K2 : AV → Option R, zBi P n t x K2 = K2 y) ∧ Sim x y
 | 0, t, x, K, r, h => by simp [zBi] at h
 | n + 1, t, x, K, r, h => by
  unfold zBi at h
  split at h <;> (try (cases h; done))
  ·rename_i hu
   obtain ⟨b, hb, h⟩ := qA h
   refine ⟨.bool b, fun K2 => by simp only [zBi, hu, hb]; rfl, ?_⟩
   unfold tkBool at hb
   split at hb <;> (try (cases hb; done))
   cases hb
   exact .refl _
  ·rename_i k hu
   obtain ⟨b, hb, h⟩ := qA h
   refine ⟨.int k b, fun K2 => by simp only [zBi, hu, hb]; rfl, ?_⟩
   unfold tkInt at hb
   split at hb <;> (try (cases hb; done))
   split at hb <;> (try (cases hb; done))
   rename_i hk
   cases hb
   subst hk
   exact .refl _
  ·rename_i hu
   obtain ⟨b, hb, h⟩ := qA h
   refine ⟨.str b, fun K2 => by simp only [zBi, hu, hb]; rfl, ?_⟩
   unfold tkStr at hb
   split at hb <;> (try (cases hb; done))
   cases hb
   exact .refl _
  ·rename_i e hu
   split at h
   ·rename_i k hk
    obtain ⟨b, hb, h⟩ := qA h
    refine ⟨.rints k b, fun K2 => by simp only [zBi, hu, hk, hb]; rfl, ?_⟩
    unfold tkRints at hb
    split at hb <;> (try (cases hb; done))
    ·split at hb <;> (try (cases hb; done))
     rename_i hk
     cases hb
     subst hk
     exact .refl _
    ·cases hb
     exact .nilr _
   ·rename_i hk
    obtain ⟨b, hb, h⟩ := qA h
    refine ⟨.robjs e (zP P e) b, fun K2 => by simp only [zBi, hu, hk, hb]; rfl, ?_⟩
    unfold tkRobjs at hb
    split at hb <;> (try (cases hb; done))
    ·split at hb <;> (try (cases hb; done))
     rename_i he
     split at hb <;> (try (cases hb; done))
     rename_i hw
     cases hb
     subst he
     rw [hw]
     exact .refl _
    ·cases hb
     exact .nilo _ _
  ·rename_i m e hu
   split at h
   ·rename_i k hk
    obtain ⟨b, hb, h⟩ := qA h
    refine ⟨.ints k m b, fun K2 => by simp only [zBi, hu, hk, hb]; rfl, ?_⟩
    unfold tkInts at hb
    split at hb <;> (try (cases hb; done))
    split at hb <;> (try (cases hb; done))
    rename_i h1
    split at hb <;> (try (cases hb; done))
    rename_i h2
    cases hb
    subst h1; subst h2
    exact .refl _
   ·rename_i hk
    obtain ⟨kids, hb, h'⟩ := qA h
    clear h
    obtain ⟨rfl, hl⟩ := zGS hb
    obtain ⟨ys, g1, g2, g3⟩ := zCJ (dec := zBi P n) (i := 0) (fun t x K r h => zAP h) (by rw [hl, List.length_replicate, Nat.zero_add]) h'
    refine ⟨.agg ys, fun K2 => by simp only [zBi, hu, hk, hb]; show zEr _ _ _ _ _ = _; rw [g1], .agg _ _ (by simp [g2, hl]) fun i x y h1 h2 => g3 i x y (by simpa using h1) h2⟩
  ·rename_i fs hu
   obtain ⟨kids, hb, h'⟩ := qA h
   clear h
   obtain ⟨rfl, hl⟩ := zGS hb
   obtain ⟨ys, g1, g2, g3⟩ := zCJ (dec := zBi P n) (i := 0) (fun t x K r h => zAP h) (by rw [hl, List.length_map, Array.length_toList, Nat.zero_add]) h'
   refine ⟨.agg ys, fun K2 => by simp only [zBi, hu, hb]; show zEr _ _ _ _ _ = _; rw [g1], .agg _ _ (by simp [g2, hl]) fun i x y h1 h2 => g3 i x y (by simpa using h1) h2⟩
theorem zDC {b : Blk} {p : List Nat} {K : AV → Option R} {r : R} (h : zJs C b p K = some r) : ∃ y, (∀ K2 : AV → Option R, zJs C b p K2 = K2 y) ∧ ∃ x, zCB b p = some x ∧ Sim x y := by
 unfold zJs at h
 split at h
 ·rename_i e w l i p
  obtain ⟨y, hk, hs⟩ := zAP h
  rw [hk] at h
  split at h <;> (try (cases h; done))
  rename_i z hz
  obtain ⟨x, g1, g2⟩ := hs.get hz
  exact ⟨z, fun K2 => by simp only [zJs]; rw [hk]; simp only [hz], x, by simpa [zCB] using g1, g2⟩
 ·rename_i hno
  split at h <;> (try (cases h; done))
  rename_i x hx
  refine ⟨x, fun K2 => ?_, x, hx, .refl _⟩
  unfold zJs
  split
  ·exact absurd rfl (hno _ _ _ _ _ rfl)
  ·simp only [hx]
theorem zFo {t : TypeId} {x : AV} {bl : zC} {K : z9 R} {r : R} (h : zBq C t x bl K = some r) :
  ∃ cat v, KS (R := R) (zBq C t x) bl cat v bl ∧ cat ≠ .write ∧ ∀ E, (E.bl = bl ∨ cat = .pure) → Mem E → ∀ a, VR E true x a → ∃ v', (Instr.loadAt t a).run C.P E.w = .ok v' E.w ∧ VR E true v v' := by
 unfold zBq at h
 split at h
 ·rename_i id path
  split at h <;> (try (cases h; done))
  rename_i b hb
  obtain ⟨y, hk, x, hx, sim⟩ := zDC h
  rw [hk] at h
  split at h <;> (try (cases h; done))
  rename_i hc
  refine ⟨.read, y, .ofRead fun K => by simp only [zBq, hb]; rw [hk]; simp [hc], by simp, fun E hE m a ha => ?_⟩
  rcases hE with rfl | hE
  ·obtain ⟨q, hq, rfl⟩ := ha.loc_ptr hb
   have k := m.ok id b hb
   obtain ⟨h1, h2⟩ := zBu k.fit hx hq
   obtain ⟨v', h3, h4⟩ := zBQ (P := C.P) (E := E) (o := true) (b := (E.loc id).1) (q := (E.loc id).2.1 + q) hc (sim.same.fit h1) fun j y hy => by
    have hj := (List.getElem?_eq_some_iff.1 hy).1
    rw [sim.same.len] at hj
    have hz := List.getElem?_eq_getElem hj
    obtain ⟨v, g1, g2⟩ := k.cells (q + j) _ (h2 j _ hz)
    exact ⟨v, by rw [Nat.add_assoc]; exact g1, sim.same.vr j _ y hz hy E true v g2⟩
   exact ⟨v', by simpa [Instr.loadAt, Instr.sureAddr] using h3, h4⟩
  ·cases hE
 ·rename_i id path s n
  split at h <;> (try (cases h; done))
  ·rename_i _ _ k l hb
   split at h <;> (try (cases h; done))
   rename_i hc
   refine ⟨.read, .ints k n ((l.drop s).take n), .ofRead fun K => by simp [zBq, hb, hc], by simp, fun E hE m a ha => ?_⟩
   rcases hE with rfl | hE
   ·cases ha with
    | aptr _ _ _ _ a hid hh =>
     obtain ⟨h1, q, w, c, h2, rfl, h3, h4, h5⟩ := hh _ hb
     obtain ⟨ab, ao, as⟩ := a
     simp at h1 h4 h5
     subst h1; subst h4; subst h5
     simp [zZ] at h2
     obtain ⟨rfl, h2⟩ := h2
     have ok := m.ok id _ hb
     obtain ⟨v', g1, g2⟩ := zBQ (P := C.P) (E := E) (o := true) (b := (E.loc id).1) (q := (E.loc id).2.1 + 0 + s) hc (.ints _ _ _ (by simp; omega)) fun j y hy => by
      have hj := (List.getElem?_eq_some_iff.1 hy).1
      simp [zH] at hj
      obtain ⟨v, g1, g2⟩ := ok.cells (s + j) y (by
       simp only [zH, List.getElem?_map, List.getElem?_take, List.getElem?_drop] at hy
       rw [if_pos (by omega)] at hy
       simpa [zJ] using hy)
      exact ⟨v, by rw [Nat.add_zero, Nat.add_assoc]; exact g1, g2⟩
     exact ⟨v', by simpa [Instr.loadAt, Instr.sureAddr] using g1, g2⟩
   ·cases hE
  ·rename_i path _ _ v hb
   split at h <;> (try (cases h; done))
   rename_i k n' l hg
   split at h <;> (try (cases h; done))
   rename_i hc
   refine ⟨.read, .ints k n ((l.drop s).take n), .ofRead fun K => by simp [zBq, hb, hg, hc], by simp, fun E hE m a ha => ?_⟩
   rcases hE with rfl | hE
   ·cases ha with
    | aptr _ _ _ _ a hid hh =>
     obtain ⟨h1, q, w, c, h2, rfl, h3, h4, h5⟩ := hh _ hb
     obtain ⟨ab, ao, as⟩ := a
     simp at h1 h4 h5
     subst h1; subst h4; subst h5
     obtain ⟨hq, _, rfl⟩ := zDP hg h2
     have ok := m.ok id _ hb
     obtain ⟨e1, e2⟩ := zBu (blk := .var v) ok.fit hg hq
     have e3 := e1.len
     obtain ⟨v', g1, g2⟩ := zBQ (P := C.P) (E := E) (o := true) (b := (E.loc id).1) (q := (E.loc id).2.1 + q + s) hc (.ints _ _ _ (by simp; omega)) fun j y hy => by
      have hj := (List.getElem?_eq_some_iff.1 hy).1
      simp [zH] at hj
      obtain ⟨v, g1, g2⟩ := ok.cells (q + (s + j)) y (e2 (s + j) y (by
       simp only [zH, List.getElem?_map, List.getElem?_take, List.getElem?_drop] at hy
       rw [if_pos (by omega)] at hy
       simpa [zH] using hy))
      exact ⟨v, by rw [Nat.add_assoc, Nat.add_assoc]; exact g1, g2⟩
     exact ⟨v', by simpa [Instr.loadAt, Instr.sureAddr] using g1, g2⟩
   ·cases hE
 ·rename_i x
  split at h <;> (try (cases h; done))
  rename_i hc
  refine ⟨.pure, x, .ofPure fun bl K => by simp [zBq, hc], by simp, fun E hE m a ha => ?_⟩
  cases ha with
  | rptr _ _ a hf hs vv hh hv =>
   obtain ⟨ab, ao, as⟩ := a
   simp at hs
   subst hs
   obtain ⟨v', g1, g2⟩ := zBQ (P := C.P) (E := E) (o := true) (b := ab) (q := ao) hc hf fun j y hy => ⟨vv j, (hh j y hy).2, (hv j y hy).lift⟩
   exact ⟨v', by simpa [Instr.loadAt, Instr.sureAddr] using g1, g2⟩
 ·cases h
theorem zHJ {t : TypeId} {p x : AV} {bl : zC} {K : z9 R} {r : R} (h : zDr C t p x bl K = some r) :
  ∃ bl', KS (R := R) (zDr C t p x) bl .write .any bl' ∧ ∀ E, E.bl = bl → Mem E → ∀ a v, VR E true p a → VR E true x v → ∃ E', (Instr.storeAt t a v).run C.P E.w = .ok () E'.w ∧ E'.bl = bl' ∧ Go E E' := by
 unfold zDr at h
 split at h <;> (try (cases h; done))
 rename_i id path
 split at h <;> (try (cases h; done))
 rename_i b hb
 split at h <;> (try (cases h; done))
 rename_i b' hb'
 split at h <;> (try (cases h; done))
 rename_i hc
 refine ⟨bl.set id (some b'), .ofWrite fun K => by simp only [zDr, hb, hb', if_pos hc], fun E hE m a v ha hv => ?_⟩
 subst hE
 simp only [Bool.and_eq_true] at hc
 obtain ⟨q, hq, rfl⟩ := ha.loc_ptr hb
 have ok := m.ok id b hb
 obtain ⟨hf, hs, hcells⟩ := hv.cells ⟨fun e => by subst e; simp [solid] at hc, fun vs e => by subst e; simp [solid] at hc⟩
 obtain ⟨hf', ⟨pre, mid, post, e1, e2, e3, e4⟩, s1, s2⟩ := zAx ok.fit hf hb' hq
 have hw := hf.length
 have hlen : (zJ b).length = pre.length + ((zH x).length + post.length) := by rw [e1]; simp; omega
 have hlen' : (zJ b').length = pre.length + ((zH x).length + post.length) := by rw [e2]; simp
 have hroom := ok.len
 refine ⟨E.put id q v.cells.toList b', ?_, rfl, Go.put m id q _ b b' hb (by simp; omega) hf' (by omega) (fun j y hy hj1 hj2 => ?_) (fun j y hy hj => ?_) s1 s2 (wI hb').2⟩
 ·have := zII (P := C.P) (E := E) (o := true) (b := (E.loc id).1) (q := (E.loc id).2.1 + q) hc.2 hc.1 hv fun j hj => by
   rw [Nat.add_assoc]; exact ok.room (wI hb').1 (q + j) (by omega)
  simpa [Instr.storeAt, Instr.sureAddr, Env.put] using this
 ·rw [e2, List.getElem?_append_right (by omega), e3] at hy
  have hjl : j - q < (zH x).length := by simp at hj2; omega
  rw [List.getElem?_append_left hjl] at hy
  have hv' : v.cells[j - q]? = some (v.cells[j - q]'(by omega)) := Array.getElem?_eq_getElem (by omega)
  exact ⟨_, by simp, hcells _ y _ hy hv'⟩
 ·have hvl : v.cells.toList.length = (zH x).length := by simpa using hs
  rw [hvl] at hj
  rw [e2] at hy
  rw [e1]
  rcases hj with hj | hj
  ·rw [List.getElem?_append_left (by omega)] at hy ⊢
   exact hy
  ·rw [List.getElem?_append_right (by omega), List.getElem?_append_right (by omega)] at hy ⊢
   rw [show j - pre.length - (zH x).length = j - pre.length - mid.length from by omega] at hy
   exact hy
end
end Go.Abs
end
section
set_option linter.unusedVariables false
set_option linter.unusedSimpArgs false
namespace Go.Abs
open Go
section
variable {R : Type} {C : Ctx}
theorem zGw {P : Program} {cf : TypeId → AV → Bool} : ∀ {fs : List Field} {kids : List AV} {off f : Nat} {a : Field}, kN P cf fs kids off = true → fs[f]? = some a →
  ∃ y, kids[f]? = some y ∧ a.offset = off + zX (kids.take f) ∧ zP P a.type = width y ∧ cf a.type y = true
 | [], kids, off, f, a, h, hf => by simp at hf
 | b :: fs, [], off, f, a, h, hf => by simp [kN] at h
 | b :: fs, y :: kids, off, 0, a, h, hf => by
  simp at hf; subst hf
  simp [kN] at h
  exact ⟨y, rfl, by simp [zX]; exact h.1.1.1, h.1.1.2, h.1.2⟩
 | b :: fs, y :: kids, off, f + 1, a, h, hf => by
  simp at hf
  simp [kN] at h
  obtain ⟨z, h1, h2, h3, h4⟩ := zGw h.2 hf
  exact ⟨z, by simpa using h1, by simp [zX]; omega, h3, h4⟩
theorem qE {P : Program} {n : Nat} {t : TypeId} {x : AV} {fs : Array Field} (h : yJ P n t x = true) (hu : P.underlying t = some (.struct fs)) :
  ∃ m kids, n = m + 1 ∧ x = .agg kids ∧ ∀ (f : Nat) a, fs[f]? = some a → ∃ y, kids[f]? = some y ∧ a.offset = zX (kids.take f) ∧ zP P a.type = width y ∧ yJ P m a.type y = true := by
 cases n with
 | zero => simp [yJ] at h
 | succ m =>
  unfold yJ at h
  rw [hu] at h
  cases x <;> simp at h
  rename_i kids
  refine ⟨m, kids, rfl, rfl, fun f a hf => ?_⟩
  obtain ⟨y, h1, h2, h3, h4⟩ := zGw h.1 (f := f) (a := a) (by simpa using hf)
  exact ⟨y, h1, by omega, h3, h4⟩
theorem kZ {P : Program} {n : Nat} {t e m : Nat} {x : AV} (h : yJ P n t x = true) (hu : P.underlying t = some (.array m e)) :
  (∃ k l, x = .ints k m l ∧ zAi P e = some k ∧ zP P e = 1) ∨
  (∃ kids n', n = n' + 1 ∧ x = .agg kids ∧ kids.length = m ∧ ∀ y ∈ kids, yJ P n' e y = true ∧ width y = zP P e) := by
 cases n with
 | zero => simp [yJ] at h
 | succ n' =>
  unfold yJ at h
  rw [hu] at h
  cases x <;> simp at h
  ·rename_i kids
   exact .inr ⟨kids, n', rfl, rfl, h.1.1, fun y hy => h.1.2 y hy⟩
  ·rename_i k n2 l
   obtain ⟨⟨⟨rfl, h2⟩, h3⟩, h4⟩ := h
   exact .inl ⟨k, l, rfl, h2, h3⟩
theorem k8 {kids : List AV} {w : Nat} (h : ∀ y ∈ kids, width y = w) : ∀ i, i ≤ kids.length → zX (kids.take i) = i * w := by
 intro i
 induction i with
 | zero => intro _; simp [zX]
 | succ i ih =>
  intro hi
  rw [List.take_succ_eq_append_getElem (by omega), zGI, ih (by omega)]
  simp only [zX, Nat.add_zero]
  rw [h _ (List.getElem_mem _), Nat.succ_mul]
theorem qI {P : Program} {e : TypeId} {k : IntKind} (h : zAi P e = some k) : P.underlying e = some (.int k) := by
 unfold zAi at h
 split at h
 ·cases h; assumption
 ·cases h
theorem jF {P : Program} {E : Env} {o : Bool} {f t off : Nat} {y : AV} {cs : Array Value} (hc : yJ P f t y = true) (hf : Fit y)
  (h : ∀ (j : Nat) z, (zH y)[j]? = some z → ∃ c, cs[off + j]? = some c ∧ VR E o z c) : ∃ v, ∀ w, (part t cs off).run P w = .ok v w ∧ VR E o y v := by
 obtain ⟨d, hu, hs, hr⟩ := yU hc
 have hl := hf.length
 rcases hr with ⟨hl, hd⟩ | ⟨hd, hr⟩
 ·obtain ⟨h1, h2⟩ := hl.one
  obtain ⟨c, g1, g2⟩ := h 0 y (by rw [h1]; rfl)
  rw [Nat.add_zero] at g1
  exact ⟨c, fun w => ⟨by simp [part, zAy hu, hd, g1], g2⟩⟩
 ·have hsz : width y ≤ cs.size - off := by
   rcases Nat.eq_zero_or_pos (width y) with h0 | h0
   ·omega
   ·obtain ⟨c, g1, _⟩ := h (width y - 1) _ (List.getElem?_eq_getElem (by omega))
    have := (Array.getElem?_eq_some_iff.1 g1).1
    omega
  have hget : ∀ (j : Nat) c, (cs.extract off (off + width y))[j]? = some c → ∃ z, (zH y)[j]? = some z ∧ VR E o z c := fun j c hj => by
   have hjl := (Array.getElem?_eq_some_iff.1 hj).1
   simp at hjl
   have hz := List.getElem?_eq_getElem (l := zH y) (i := j) (by omega)
   obtain ⟨c', g1, g2⟩ := h j _ hz
   rw [Array.getElem?_extract] at hj
   rw [if_pos (by omega)] at hj
   rw [g1] at hj
   cases hj
   exact ⟨_, hz, g2⟩
  refine ⟨.agg (cs.extract off (off + width y)), fun w => ⟨by simp [part, zAy hu, hd, yW hu, hs], ?_⟩⟩
  rcases hr with ⟨kids, rfl⟩ | ⟨k, n, l, rfl⟩
  ·refine .agg _ _ _ hf (by simp [width]; simp only [zH, width] at hl hsz; omega) fun j z c hz hj => ?_
   obtain ⟨z', h1, h2⟩ := hget j c hj
   simp only [zH] at h1
   rw [hz] at h1
   cases h1
   exact h2
  ·have hn := hf.len
   have : (cs.extract off (off + width (.ints k n l))) = (l.map (Value.int k)).toArray := by
    apply Array.ext_getElem?
    intro j
    cases hj : (cs.extract off (off + width (.ints k n l)))[j]? with
    | none =>
     have : l.length ≤ j := by
      have := Array.getElem?_eq_none_iff.1 hj
      simp only [Array.size_extract, width] at this hsz
      omega
     simp [List.getElem?_eq_none this]
    | some c =>
     obtain ⟨z, hz, hv⟩ := hget j c hj
     simp only [zH, List.getElem?_map] at hz
     cases hlj : l[j]? with
     | none => simp [hlj] at hz
     | some m =>
      simp [hlj] at hz
      subst hz
      rw [hv.int_inv]
      simp [hlj]
   rw [this]
   exact .ints _ _ _ _ hn
theorem VR.agg_inv {E : Env} {o : Bool} {kids : List AV} {v : Value} (h : VR E o (.agg kids) v) : ∃ cs, v = .agg cs ∧ Fit (.agg kids) ∧ cs.size = (zG kids).length ∧
  ∀ (j : Nat) x c, (zG kids)[j]? = some x → cs[j]? = some c → VR E o x c := by
 cases h with
 | agg _ _ cs hf hs h => exact ⟨cs, rfl, hf, hs, h⟩
theorem zHf {E : Env} {o : Bool} {kids : List AV} {cs : Array Value} (hf : Fit (.agg kids)) (hs : cs.size = (zG kids).length)
  (h : ∀ (j : Nat) x c, (zG kids)[j]? = some x → cs[j]? = some c → VR E o x c) {f : Nat} {y : AV} (hy : kids[f]? = some y) :
  ∀ (j : Nat) z, (zH y)[j]? = some z → ∃ c, cs[zX (kids.take f) + j]? = some c ∧ VR E o z c := fun j z hz => by
 have hfl : (zG kids)[zX (kids.take f) + j]? = some z := by
  rw [kJ hy, List.getElem?_append_right (by rw [kU fun x hx => hf.kid (List.mem_of_mem_take hx)]; omega),
   kU fun x hx => hf.kid (List.mem_of_mem_take hx), Nat.add_sub_cancel_left, List.getElem?_append_left (List.getElem?_eq_some_iff.1 hz).1]
  exact hz
 have hlt := (List.getElem?_eq_some_iff.1 hfl).1
 have hc : cs[zX (kids.take f) + j]? = some (cs[zX (kids.take f) + j]'(by omega)) := Array.getElem?_eq_getElem (by omega)
 exact ⟨_, hc, h _ _ _ hfl hc⟩
theorem zIk {t : TypeId} {x : AV} {f : Nat} {K : AV → Option R} {r : R} (h : zEY C t x f K = some r) :
  ∃ v, (∀ K2 : AV → Option R, zEY C t x f K2 = K2 v) ∧ ∀ E o x', VR E o x x' → ∃ v', ∀ w, (Instr.field t x' f).run C.P w = .ok v' w ∧ VR E o v v' := by
 unfold zEY at h
 split at h <;> (try (cases h; done))
 rename_i kids
 split at h <;> (try (cases h; done))
 rename_i y fs hy hu
 split at h <;> (try (cases h; done))
 rename_i a ha
 split at h <;> (try (cases h; done))
 rename_i hc
 refine ⟨y, fun K2 => by simp [zEY, hy, hu, ha, hc], fun E o x' hx => ?_⟩
 obtain ⟨cs, rfl, hf, hs, hcells⟩ := hx.agg_inv
 obtain ⟨m, kids', _, hk, hget⟩ := qE hc hu
 cases hk
 obtain ⟨y', g1, g2, g3, g4⟩ := hget f a ha
 rw [hy] at g1
 cases g1
 obtain ⟨v, hv⟩ := jF (P := C.P) (E := E) (o := o) (cs := cs) (off := a.offset) g4 (hf.kid (List.mem_of_getElem? hy)) (by rw [g2]; exact zHf hf hs hcells hy)
 exact ⟨v, fun w => ⟨by simp [Instr.field, run_underlying hu, ha, asAgg, (hv w).1], (hv w).2⟩⟩
theorem zJD (s : ByteArray) (i : Nat) (h : i < s.size) : s[i]? = some s[i] ∧ (bytesOf s).getD i 0 = (s[i].toNat : Int) := by
 refine ⟨by simp [h], ?_⟩
 have : i < s.data.toList.length := by simpa using h
 simp [bytesOf, List.getElem?_eq_getElem this, h]
 rfl
theorem zIf {t : TypeId} {x ix : AV} {K : AV → Option R} {r : R} (h : zCz C t x ix K = some r) :
  ∃ v, (∀ K2 : AV → Option R, zCz C t x ix K2 = K2 v) ∧ ∀ E o x' i', VR E o x x' → VR E o ix i' → ∃ v', ∀ w, (Instr.index t x' i').run C.P w = .ok v' w ∧ VR E o v v' := by
 unfold zCz at h
 split at h <;> (try (cases h; done))
 rename_i ik i
 split at h <;> (try (cases h; done))
 ·rename_i n e k m l hu
  split at h <;> (try (cases h; done))
  rename_i hc
  split at h <;> (try (cases h; done))
  rename_i h0
  split at h <;> (try (cases h; done))
  rename_i h1
  refine ⟨.int k (l.getD i.toNat 0), fun K2 => by simp only [zCz, hu, hc, h0, h1, if_true], fun E o x' i' hx hi => ?_⟩
  cases hi
  have hfx : VR E o (.ints k m l) x' := hx
  cases hx with
  | ints _ _ _ _ hl =>
   rcases kZ hc hu with ⟨k', l', e1, e2, e3⟩ | ⟨_, _, _, e1, _⟩
   ·cases e1
    have hin : i.toNat < l.length := by omega
    refine ⟨.int k (l.getD i.toNat 0), fun w => ⟨?_, .int _ _ _⟩⟩
    have hue := qI e2
    have hp : (part e (l.map (Value.int k)).toArray i.toNat).run C.P w = .ok (.int k (l.getD i.toNat 0)) w := by
     simp [part, zAy hue, TypeDesc.isRow, List.getElem?_eq_getElem hin]
    simp [Instr.index, asIntOf, run_underlying hu, h0, h1, yW hue, e3, hp]
   ·cases e1
 ·rename_i n e kids hu
  split at h <;> (try (cases h; done))
  rename_i hc
  split at h <;> (try (cases h; done))
  rename_i h0
  split at h <;> (try (cases h; done))
  rename_i h1
  refine ⟨kids.getD i.toNat .any, fun K2 => by simp only [zCz, hu, hc, h0, h1, if_true], fun E o x' i' hx hi => ?_⟩
  cases hi
  obtain ⟨cs, rfl, hf, hs, hcells⟩ := hx.agg_inv
  rcases kZ hc hu with ⟨_, _, e1, _⟩ | ⟨kids', n', _, e1, e2, e3⟩
  ·cases e1
  ·cases e1
   have hin : i.toNat < kids.length := by omega
   have hy := List.getElem?_eq_getElem hin
   have hd : kids.getD i.toNat .any = kids[i.toNat] := by simp [hy]
   obtain ⟨c1, c2⟩ := e3 _ (List.getElem_mem hin)
   obtain ⟨d, hue, _⟩ := yU c1
   obtain ⟨v, hv⟩ := jF (P := C.P) (E := E) (o := o) (cs := cs) (off := i.toNat * zP C.P e) c1 (hf.kid (List.getElem_mem hin)) (by
    have := zHf hf hs hcells hy
    rwa [k8 (fun y hy => (e3 y hy).2) _ (Nat.le_of_lt hin)] at this)
   refine ⟨v, fun w => ⟨?_, by rw [hd]; exact (hv w).2⟩⟩
   simp [Instr.index, asIntOf, run_underlying hu, h0, h1, yW hue, (hv w).1]
 ·rename_i s hu
  split at h <;> (try (cases h; done))
  rename_i h0
  split at h <;> (try (cases h; done))
  rename_i h1
  refine ⟨.int .u8 ((bytesOf s).getD i.toNat 0), fun K2 => by simp only [zCz, hu, h0, h1, if_true], fun E o x' i' hx hi => ?_⟩
  cases hi
  cases hx
  have hin : i.toNat < s.size := by omega
  obtain ⟨g1, g2⟩ := zJD s i.toNat hin
  refine ⟨.int .u8 (s[i.toNat].toNat : Int), fun w => ⟨?_, by rw [g2]; exact .int _ _ _⟩⟩
  simp [Instr.index, asIntOf, run_underlying hu, h0, g1]
end
end Go.Abs
end
