/- What the program's functions compute, as plain functions, each with its proof: the function does just that. Condition: the plain function has an answer. -/
import Derived.Test.YtkknbhapkdgcjaaDoorAbsO8
import Derived.Test.YtkknbhapkdgcjaaDoorProg
import Derived.Test.YtkknbhapkdgcjaaDoorFnRulesMore1
import Derived.Test.YtkknbhapkdgcjaaDoorAbsO2
import Derived.WalkKit
set_option linter.unusedVariables false
set_option linter.unusedSimpArgs false
set_option maxRecDepth 100000
open Go Go.Abs Go.Proofs
section
noncomputable section
noncomputable def Fam.C (n : Nat) : Ctx := ⟨Tryd.prog, kecG, lookC [(20, Fal.c n), (21, Fo.c n)], fun t => t == 6005000 || t == 6005011⟩
def Fam.live : NL := fun k => match k with
 | 3 => ([10, 0, 5, 7, 6, 9], [9])
 | 8 => ([49, 48, 47, 11, 12, 9, 10, 0, 5, 7, 6], [10, 0, 5, 7, 6, 9])
 | 11 => ([61, 60, 59, 9, 10, 13, 49, 48, 47, 11, 12, 0, 5, 7, 6], [49, 48, 47, 11, 12, 9, 10, 0, 5, 7, 6])
 | _ => ([], [])
def Fam.l11_0.r {α : Type} (mk0 : Int → Int → LA → Int → LA → LA → Int → Int → LA → LA → Int → Int → LI → LI → Bool → LI → LI → LI → Int → Int → Int → LI → LI → Bool → LI → Int → Int → LI → LI → Int → Bool → Bool → LA → LI → LA → LI → LI → Bool → LI → LI → LI → Int → Int → Int → LI → LI → Bool → LI → Int → Int → LI → LI → Bool → Bool → Bool → Bool → LA → LA → LA → LA → α) (n : Nat) (rc : Int → Int → Int → Int → Int → Int → LA → LA → LA → Int → Int → LI → LA → LA → LA → Int → Int → LI → LI → Bool → LI → LI → LI → Int → Int → Int → LI → LI → Bool → LI → Int → Int → LI → LI → Int → Bool → Bool → LA → LI → LI → LI → Bool → LI → LI → LI → Int → Int → Int → LI → LI → Bool → LI → Int → Int → LI → LI → Bool → Bool → Bool → Bool → LA → LA → LA → LA → Option α)  (x0 : Int) (x1 : Int) (x2 : Int) (x3 : Int) (x4 : Int) (x5 : Int) (x6 : LA) (x7 : LA) (x8 : LA) (x9 : Int) (x10 : Int) (x11 : LI) (x12 : LA) (x13 : LA) (x14 : LA) (x15 : Int) (x16 : Int) (x17 : LI) (x18 : LI) (x19 : Bool) (x20 : LI) (x21 : LI) (x22 : LI) (x23 : Int) (x24 : Int) (x25 : Int) (x26 : LI) (x27 : LI) (x28 : Bool) (x29 : LI) (x30 : Int) (x31 : Int) (x32 : LI) (x33 : LI) (x34 : Int) (x35 : Bool) (x36 : Bool) (x37 : LA) (x38 : LI) (x39 : LI) (x40 : LI) (x41 : Bool) (x42 : LI) (x43 : LI) (x44 : LI) (x45 : Int) (x46 : Int) (x47 : Int) (x48 : LI) (x49 : LI) (x50 : Bool) (x51 : LI) (x52 : Int) (x53 : Int) (x54 : LI) (x55 : LI) (x56 : Bool) (x57 : Bool) (x58 : Bool) (x59 : Bool) (x60 : LA) (x61 : LA) (x62 : LA) (x63 : LA) : Option α :=
  if (decide (x0 < x1)) = true then
   if 0 ≤ x0 then
    if x0 < (((List.length x11) : Nat) : Int) then
     if ((((List.length x12) + 1) * 16) ≤ 70368744177664 ∧ ((List.length x12) + 1) ≤ 9223372036854775807) then
      rc (IntKind.wrap .i64 (x0 + 1)) x1 x2 x3 x4 x5 x6 x7 x8 x9 x10 x11 (x12 ++ [(AV.agg [(AV.int .u8 (List.getD x11 (Int.toNat x0) 0)), (AV.int .u8 x2), (AV.int .i64 x3)])]) x13 x14 x15 x16 x17 x18 x19 x20 x21 x22 x23 x24 x25 x26 x27 x28 x29 x30 x31 x32 x33 x34 x35 x36 x37 x38 x39 x40 x41 x42 x43 x44 x45 x46 x47 x48 x49 x50 x51 x52 x53 x54 x55 x56 x57 x58 x59 x60 x61 x62 x63
     else
      none
    else
     none
   else
    none
  else
   some (mk0 x4 x5 x6 x2 x7 x8 x9 x10 x13 x14 x15 x16 x17 x18 x19 x20 x21 x22 x23 x24 x25 x26 x27 x28 x29 x30 x31 x32 x33 x34 x35 x36 x37 x38 x12 x39 x40 x41 x42 x43 x44 x45 x46 x47 x48 x49 x50 x51 x52 x53 x54 x55 x56 x57 x58 x59 x60 x61 x62 x63)
def Fam.l11_0.g {α : Type} (mk0 : Int → Int → LA → Int → LA → LA → Int → Int → LA → LA → Int → Int → LI → LI → Bool → LI → LI → LI → Int → Int → Int → LI → LI → Bool → LI → Int → Int → LI → LI → Int → Bool → Bool → LA → LI → LA → LI → LI → Bool → LI → LI → LI → Int → Int → Int → LI → LI → Bool → LI → Int → Int → LI → LI → Bool → Bool → Bool → Bool → LA → LA → LA → LA → α) (n : Nat) : Nat → Int → Int → Int → Int → Int → Int → LA → LA → LA → Int → Int → LI → LA → LA → LA → Int → Int → LI → LI → Bool → LI → LI → LI → Int → Int → Int → LI → LI → Bool → LI → Int → Int → LI → LI → Int → Bool → Bool → LA → LI → LI → LI → Bool → LI → LI → LI → Int → Int → Int → LI → LI → Bool → LI → Int → Int → LI → LI → Bool → Bool → Bool → Bool → LA → LA → LA → LA → Option α
 | 0, _, _, _, _, _, _, _, _, _, _, _, _, _, _, _, _, _, _, _, _, _, _, _, _, _, _, _, _, _, _, _, _, _, _, _, _, _, _, _, _, _, _, _, _, _, _, _, _, _, _, _, _, _, _, _, _, _, _, _, _, _, _, _, _ => none
 | m + 1, x0, x1, x2, x3, x4, x5, x6, x7, x8, x9, x10, x11, x12, x13, x14, x15, x16, x17, x18, x19, x20, x21, x22, x23, x24, x25, x26, x27, x28, x29, x30, x31, x32, x33, x34, x35, x36, x37, x38, x39, x40, x41, x42, x43, x44, x45, x46, x47, x48, x49, x50, x51, x52, x53, x54, x55, x56, x57, x58, x59, x60, x61, x62, x63 => Fam.l11_0.r mk0 n (fun y0 y1 y2 y3 y4 y5 y6 y7 y8 y9 y10 y11 y12 y13 y14 y15 y16 y17 y18 y19 y20 y21 y22 y23 y24 y25 y26 y27 y28 y29 y30 y31 y32 y33 y34 y35 y36 y37 y38 y39 y40 y41 y42 y43 y44 y45 y46 y47 y48 y49 y50 y51 y52 y53 y54 y55 y56 y57 y58 y59 y60 y61 y62 y63 => Fam.l11_0.g mk0 n m y0 y1 y2 y3 y4 y5 y6 y7 y8 y9 y10 y11 y12 y13 y14 y15 y16 y17 y18 y19 y20 y21 y22 y23 y24 y25 y26 y27 y28 y29 y30 y31 y32 y33 y34 y35 y36 y37 y38 y39 y40 y41 y42 y43 y44 y45 y46 y47 y48 y49 y50 y51 y52 y53 y54 y55 y56 y57 y58 y59 y60 y61 y62 y63)  x0 x1 x2 x3 x4 x5 x6 x7 x8 x9 x10 x11 x12 x13 x14 x15 x16 x17 x18 x19 x20 x21 x22 x23 x24 x25 x26 x27 x28 x29 x30 x31 x32 x33 x34 x35 x36 x37 x38 x39 x40 x41 x42 x43 x44 x45 x46 x47 x48 x49 x50 x51 x52 x53 x54 x55 x56 x57 x58 x59 x60 x61 x62 x63
def Fam.l11_0.m (n m : Nat) (t : Ty0) : Option Ty1 := Fam.l11_0.g (fun a0 a1 a2 a3 a4 a5 a6 a7 a8 a9 a10 a11 a12 a13 a14 a15 a16 a17 a18 a19 a20 a21 a22 a23 a24 a25 a26 a27 a28 a29 a30 a31 a32 a33 a34 a35 a36 a37 a38 a39 a40 a41 a42 a43 a44 a45 a46 a47 a48 a49 a50 a51 a52 a53 a54 a55 a56 a57 a58 a59 => (a0, a1, a2, a3, a4, a5, a6, a7, a8, a9, a10, a11, a12, a13, a14, a15, a16, a17, a18, a19, a20, a21, a22, a23, a24, a25, a26, a27, a28, a29, a30, a31, a32, a33, a34, a35, a36, a37, a38, a39, a40, a41, a42, a43, a44, a45, a46, a47, a48, a49, a50, a51, a52, a53, a54, a55, a56, a57, a58, a59)) n m t.1 t.2.1 t.2.2.1 t.2.2.2.1 t.w.1 t.w.2.1 t.w.2.2.1 t.w.2.2.2.1 t.x.1 t.x.2.1 t.x.2.2.1 t.x.2.2.2.1 t.x.w.1 t.x.w.2.1 t.x.w.2.2.1 t.x.w.2.2.2.1 t.y.1 t.y.2.1 t.y.2.2.1 t.y.2.2.2.1 t.y.w.1 t.y.w.2.1 t.y.w.2.2.1 t.y.w.2.2.2.1 t.y.x.1 t.y.x.2.1 t.y.x.2.2.1 t.y.x.2.2.2.1 t.y.x.w.1 t.y.x.w.2.1 t.y.x.w.2.2.1 t.y.x.w.2.2.2.1 t.y.y.1 t.y.y.2.1 t.y.y.2.2.1 t.y.y.2.2.2.1 t.y.y.w.1 t.y.y.w.2.1 t.y.y.w.2.2.1 t.y.y.w.2.2.2.1 t.y.y.x.1 t.y.y.x.2.1 t.y.y.x.2.2.1 t.y.y.x.2.2.2.1 t.y.y.x.w.1 t.y.y.x.w.2.1 t.y.y.x.w.2.2.1 t.y.y.x.w.2.2.2.1 t.y.y.y.1 t.y.y.y.2.1 t.y.y.y.2.2.1 t.y.y.y.2.2.2.1 t.y.y.y.w.1 t.y.y.y.w.2.1 t.y.y.y.w.2.2.1 t.y.y.y.w.2.2.2.1 t.y.y.y.x.1 t.y.y.y.x.2.1 t.y.y.y.x.2.2.1 t.y.y.y.x.2.2.2.1 t.y.y.y.x.w.1 t.y.y.y.x.w.2.1 t.y.y.y.x.w.2.2.1 t.y.y.y.x.w.2.2.2
def Fam.l11_0.p0 : AV → Option Int
 | (.int .i64 x0) => some x0
 | _ => none
def Fam.l11_0.p1 : AV → Option Int
 | (.int .i64 x1) => some x1
 | _ => none
def Fam.l11_0.p2 : AV → Option Unit
 | (.own 0 1) => some ()
 | _ => none
def Fam.l11_0.p3 : AV → Option Unit
 | (.own 1 3) => some ()
 | _ => none
def Fam.l11_0.p4 : AV → Option Int
 | (.int .u8 x2) => some x2
 | _ => none
def Fam.l11_0.p5 : AV → Option Int
 | (.int .i64 x3) => some x3
 | _ => none
def Fam.l11_0.p6 : AV → Option Int
 | (.int .i64 x4) => some x4
 | _ => none
def Fam.l11_0.p7 : AV → Option Int
 | (.int .i64 x5) => some x5
 | _ => none
def Fam.l11_0.p8 : AV → Option LA
 | (.robjs 47 32 x6) => some x6
 | _ => none
def Fam.l11_0.p9 : AV → Option Unit
 | (.ptr 2 []) => some ()
 | _ => none
def Fam.l11_0.p10 : AV → Option Unit
 | (.own 3 1) => some ()
 | _ => none
def Fam.l11_0.p11 : AV → Option (LA × (LA × (Int × Int)))
 | (.rptr (.agg [(.rmap x7), (.rmap x8), (.rmap []), (.rmap []), (.rmap []), (.rmap []), (.int .i64 x9), .snil, .snil, .snil, (.int .i64 x10)])) => some (x7, x8, x9, x10)
 | _ => none
def Fam.l11_0.p12 : AV → Option Unit
 | (.ptr 4 []) => some ()
 | _ => none
def Fam.l11_0.p13 : AV → Option Unit
 | (.ptr 5 []) => some ()
 | _ => none
def Fam.l11_0.p14 : AV → Option Unit
 | (.ptr 6 []) => some ()
 | _ => none
def Fam.l11_0.p15 : Option Blk → Option LI
 | (some (.ints .u8 x11)) => some x11
 | _ => none
def Fam.l11_0.p16 : Option Blk → Option LA
 | (some (.objs 41 3 x12)) => some x12
 | _ => none
def Fam.l11_0.p17 : Option Blk → Option Ty9
 | (some (.var (.agg [(.rptr (.agg [(.rmap x13), (.rmap x14), (.rmap []), (.rmap []), (.rmap []), (.rmap []), (.int .i64 x15), .snil, .snil, .snil, (.int .i64 x16)])), (.agg [(.ints .u8 20 x17), (.ints .u64 4 x18), (.bool x19), (.ints .u8 20 x20), (.rints .u8 x21), (.rints .u8 x22), (.int .u64 x23), (.int .u64 x24), (.int .u64 x25), (.ints .u64 4 x26), (.ints .u64 4 x27), (.bool x28), (.ints .u8 20 x29), (.int .u64 x30), (.int .u64 x31), (.rints .u8 x32), (.rints .u8 x33)]), (.int .u8 x34), (.bool x35), (.bool x36), (.robjs 47 32 x37)]))) => some (x13, x14, x15, x16, x17, x18, x19, x20, x21, x22, x23, x24, x25, x26, x27, x28, x29, x30, x31, x32, x33, x34, x35, x36, x37)
 | _ => none
def Fam.l11_0.p18 : Option Blk → Option LI
 | (some (.ints .i64 x38)) => some x38
 | _ => none
def Fam.l11_0.p19 : Option Blk → Option Ty12
 | (some (.var (.agg [(.ints .u8 20 x39), (.ints .u64 4 x40), (.bool x41), (.ints .u8 20 x42), (.rints .u8 x43), (.rints .u8 x44), (.int .u64 x45), (.int .u64 x46), (.int .u64 x47), (.ints .u64 4 x48), (.ints .u64 4 x49), (.bool x50), (.ints .u8 20 x51), (.int .u64 x52), (.int .u64 x53), (.rints .u8 x54), (.rints .u8 x55)]))) => some (x39, x40, x41, x42, x43, x44, x45, x46, x47, x48, x49, x50, x51, x52, x53, x54, x55)
 | _ => none
def Fam.l11_0.p20 : Option Blk → Option (Bool × (Bool × (Bool × Bool)))
 | (some (.var (.agg [(.bool x56), (.bool x57), (.bool x58), (.bool x59)]))) => some (x56, x57, x58, x59)
 | _ => none
def Fam.l11_0.p21 : Option Blk → Option (LA × (LA × (LA × LA)))
 | (some (.var (.agg [(.robjs 47 32 x60), (.robjs 47 32 x61), (.robjs 47 32 x62), (.robjs 47 32 x63)]))) => some (x60, x61, x62, x63)
 | _ => none
def Fam.l11_0.pat : St → Option Ty0
 | (St.mk [s0, s1, s2, s3, s4, s5, s6, s7, s8, s9, s10, s11, s12, s13, s14] [s15, s16, s17, s18, s19, s20, s21]) => bindO (Fam.l11_0.p0 s0) fun a0 => bindO (Fam.l11_0.p1 s1) fun a1 => bindO (Fam.l11_0.p2 s2) fun a2 => bindO (Fam.l11_0.p3 s3) fun a3 => bindO (Fam.l11_0.p4 s4) fun a4 => bindO (Fam.l11_0.p5 s5) fun a5 => bindO (Fam.l11_0.p6 s6) fun a6 => bindO (Fam.l11_0.p7 s7) fun a7 => bindO (Fam.l11_0.p8 s8) fun a8 => bindO (Fam.l11_0.p9 s9) fun a9 => bindO (Fam.l11_0.p10 s10) fun a10 => bindO (Fam.l11_0.p11 s11) fun a11 => bindO (Fam.l11_0.p12 s12) fun a12 => bindO (Fam.l11_0.p13 s13) fun a13 => bindO (Fam.l11_0.p14 s14) fun a14 => bindO (Fam.l11_0.p15 s15) fun a15 => bindO (Fam.l11_0.p16 s16) fun a16 => bindO (Fam.l11_0.p17 s17) fun a17 => bindO (Fam.l11_0.p18 s18) fun a18 => bindO (Fam.l11_0.p19 s19) fun a19 => bindO (Fam.l11_0.p20 s20) fun a20 => bindO (Fam.l11_0.p21 s21) fun a21 => some (a0, a1, a4, a5, a6, a7, a8, a11.1, a11.2.1, a11.2.2.1, a11.2.2.2, a15, a16, a17.1, a17.2.1, a17.2.2.1, a17.2.2.2.1, a17.2.2.2.2.1, a17.2.2.2.2.2.1, a17.2.2.2.2.2.2.1, a17.2.2.2.2.2.2.2.1, a17.2.2.2.2.2.2.2.2.1, a17.2.2.2.2.2.2.2.2.2.1, a17.2.2.2.2.2.2.2.2.2.2.1, a17.2.2.2.2.2.2.2.2.2.2.2.1, a17.2.2.2.2.2.2.2.2.2.2.2.2.1, a17.2.2.2.2.2.2.2.2.2.2.2.2.2.1, a17.2.2.2.2.2.2.2.2.2.2.2.2.2.2.1, a17.2.2.2.2.2.2.2.2.2.2.2.2.2.2.2.1, a17.2.2.2.2.2.2.2.2.2.2.2.2.2.2.2.2.1, a17.2.2.2.2.2.2.2.2.2.2.2.2.2.2.2.2.2.1, a17.2.2.2.2.2.2.2.2.2.2.2.2.2.2.2.2.2.2.1, a17.2.2.2.2.2.2.2.2.2.2.2.2.2.2.2.2.2.2.2.1, a17.2.2.2.2.2.2.2.2.2.2.2.2.2.2.2.2.2.2.2.2.1, a17.2.2.2.2.2.2.2.2.2.2.2.2.2.2.2.2.2.2.2.2.2.1, a17.2.2.2.2.2.2.2.2.2.2.2.2.2.2.2.2.2.2.2.2.2.2.1, a17.2.2.2.2.2.2.2.2.2.2.2.2.2.2.2.2.2.2.2.2.2.2.2.1, a17.2.2.2.2.2.2.2.2.2.2.2.2.2.2.2.2.2.2.2.2.2.2.2.2, a18, a19.1, a19.2.1, a19.2.2.1, a19.2.2.2.1, a19.2.2.2.2.1, a19.2.2.2.2.2.1, a19.2.2.2.2.2.2.1, a19.2.2.2.2.2.2.2.1, a19.2.2.2.2.2.2.2.2.1, a19.2.2.2.2.2.2.2.2.2.1, a19.2.2.2.2.2.2.2.2.2.2.1, a19.2.2.2.2.2.2.2.2.2.2.2.1, a19.2.2.2.2.2.2.2.2.2.2.2.2.1, a19.2.2.2.2.2.2.2.2.2.2.2.2.2.1, a19.2.2.2.2.2.2.2.2.2.2.2.2.2.2.1, a19.2.2.2.2.2.2.2.2.2.2.2.2.2.2.2.1, a19.2.2.2.2.2.2.2.2.2.2.2.2.2.2.2.2, a20.1, a20.2.1, a20.2.2.1, a20.2.2.2, a21.1, a21.2.1, a21.2.2.1, a21.2.2.2)
 | _ => none
def Fam.l11_0.shape (t : Ty0) : St := (St.mk [(.int .i64 t.1), (.int .i64 t.2.1), (.own 0 1), (.own 1 3), (.int .u8 t.2.2.1), (.int .i64 t.2.2.2.1), (.int .i64 t.w.1), (.int .i64 t.w.2.1), (.robjs 47 32 t.w.2.2.1), (.ptr 2 []), (.own 3 1), (.rptr (.agg [(.rmap t.w.2.2.2.1), (.rmap t.x.1), (.rmap []), (.rmap []), (.rmap []), (.rmap []), (.int .i64 t.x.2.1), .snil, .snil, .snil, (.int .i64 t.x.2.2.1)])), (.ptr 4 []), (.ptr 5 []), (.ptr 6 [])] [(some (.ints .u8 t.x.2.2.2.1)), (some (.objs 41 3 t.x.w.1)), (some (.var (.agg [(.rptr (.agg [(.rmap t.x.w.2.1), (.rmap t.x.w.2.2.1), (.rmap []), (.rmap []), (.rmap []), (.rmap []), (.int .i64 t.x.w.2.2.2.1), .snil, .snil, .snil, (.int .i64 t.y.1)])), (.agg [(.ints .u8 20 t.y.2.1), (.ints .u64 4 t.y.2.2.1), (.bool t.y.2.2.2.1), (.ints .u8 20 t.y.w.1), (.rints .u8 t.y.w.2.1), (.rints .u8 t.y.w.2.2.1), (.int .u64 t.y.w.2.2.2.1), (.int .u64 t.y.x.1), (.int .u64 t.y.x.2.1), (.ints .u64 4 t.y.x.2.2.1), (.ints .u64 4 t.y.x.2.2.2.1), (.bool t.y.x.w.1), (.ints .u8 20 t.y.x.w.2.1), (.int .u64 t.y.x.w.2.2.1), (.int .u64 t.y.x.w.2.2.2.1), (.rints .u8 t.y.y.1), (.rints .u8 t.y.y.2.1)]), (.int .u8 t.y.y.2.2.1), (.bool t.y.y.2.2.2.1), (.bool t.y.y.w.1), (.robjs 47 32 t.y.y.w.2.1)]))), (some (.ints .i64 t.y.y.w.2.2.1)), (some (.var (.agg [(.ints .u8 20 t.y.y.w.2.2.2.1), (.ints .u64 4 t.y.y.x.1), (.bool t.y.y.x.2.1), (.ints .u8 20 t.y.y.x.2.2.1), (.rints .u8 t.y.y.x.2.2.2.1), (.rints .u8 t.y.y.x.w.1), (.int .u64 t.y.y.x.w.2.1), (.int .u64 t.y.y.x.w.2.2.1), (.int .u64 t.y.y.x.w.2.2.2.1), (.ints .u64 4 t.y.y.y.1), (.ints .u64 4 t.y.y.y.2.1), (.bool t.y.y.y.2.2.1), (.ints .u8 20 t.y.y.y.2.2.2.1), (.int .u64 t.y.y.y.w.1), (.int .u64 t.y.y.y.w.2.1), (.rints .u8 t.y.y.y.w.2.2.1), (.rints .u8 t.y.y.y.w.2.2.2.1)]))), (some (.var (.agg [(.bool t.y.y.y.x.1), (.bool t.y.y.y.x.2.1), (.bool t.y.y.y.x.2.2.1), (.bool t.y.y.y.x.2.2.2.1)]))), (some (.var (.agg [(.robjs 47 32 t.y.y.y.x.w.1), (.robjs 47 32 t.y.y.y.x.w.2.1), (.robjs 47 32 t.y.y.y.x.w.2.2.1), (.robjs 47 32 t.y.y.y.x.w.2.2.2)])))])
def Fam.l11_0.res : Ty1 → Ex × St
 | u => ((.exit 4), (St.mk [(.int .i64 u.1), (.int .i64 u.2.1), (.robjs 47 32 u.2.2.1), (.ptr 0 []), (.own 1 1), (.own 2 3), (.int .u8 u.2.2.2.1), (.rptr (.agg [(.rmap u.w.1), (.rmap u.w.2.1), (.rmap []), (.rmap []), (.rmap []), (.rmap []), (.int .i64 u.w.2.2.1), .snil, .snil, .snil, (.int .i64 u.w.2.2.2.1)])), (.ptr 3 []), (.ptr 4 []), (.ptr 5 [])] [(some (.var (.agg [(.rptr (.agg [(.rmap u.x.1), (.rmap u.x.2.1), (.rmap []), (.rmap []), (.rmap []), (.rmap []), (.int .i64 u.x.2.2.1), .snil, .snil, .snil, (.int .i64 u.x.2.2.2.1)])), (.agg [(.ints .u8 20 u.x.w.1), (.ints .u64 4 u.x.w.2.1), (.bool u.x.w.2.2.1), (.ints .u8 20 u.x.w.2.2.2.1), (.rints .u8 u.y.1), (.rints .u8 u.y.2.1), (.int .u64 u.y.2.2.1), (.int .u64 u.y.2.2.2.1), (.int .u64 u.y.w.1), (.ints .u64 4 u.y.w.2.1), (.ints .u64 4 u.y.w.2.2.1), (.bool u.y.w.2.2.2.1), (.ints .u8 20 u.y.x.1), (.int .u64 u.y.x.2.1), (.int .u64 u.y.x.2.2.1), (.rints .u8 u.y.x.2.2.2.1), (.rints .u8 u.y.x.w.1)]), (.int .u8 u.y.x.w.2.1), (.bool u.y.x.w.2.2.1), (.bool u.y.x.w.2.2.2.1), (.robjs 47 32 u.y.y.1)]))), (some (.ints .i64 u.y.y.2.1)), (some (.objs 41 3 u.y.y.2.2.1)), (some (.var (.agg [(.ints .u8 20 u.y.y.2.2.2.1), (.ints .u64 4 u.y.y.w.1), (.bool u.y.y.w.2.1), (.ints .u8 20 u.y.y.w.2.2.1), (.rints .u8 u.y.y.w.2.2.2.1), (.rints .u8 u.y.y.x.1), (.int .u64 u.y.y.x.2.1), (.int .u64 u.y.y.x.2.2.1), (.int .u64 u.y.y.x.2.2.2.1), (.ints .u64 4 u.y.y.x.w.1), (.ints .u64 4 u.y.y.x.w.2.1), (.bool u.y.y.x.w.2.2.1), (.ints .u8 20 u.y.y.x.w.2.2.2.1), (.int .u64 u.y.y.y.1), (.int .u64 u.y.y.y.2.1), (.rints .u8 u.y.y.y.2.2.1), (.rints .u8 u.y.y.y.2.2.2.1)]))), (some (.var (.agg [(.bool u.y.y.y.w.1), (.bool u.y.y.y.w.2.1), (.bool u.y.y.y.w.2.2.1), (.bool u.y.y.y.w.2.2.2.1)]))), (some (.var (.agg [(.robjs 47 32 u.y.y.y.x.1), (.robjs 47 32 u.y.y.y.x.2.1), (.robjs 47 32 u.y.y.y.x.2.2.1), (.robjs 47 32 u.y.y.y.x.2.2.2)])))]))
def Fam.l11_0.resK {R : Type} (u : Ty1) (K : Ex → St → Option R) : Option R := K (Fam.l11_0.res u).1 (Fam.l11_0.res u).2
def Fam.l8_0.r {α : Type} (mk0 : Int → LA → LA → Int → Int → LI → LI → Bool → LI → LI → LI → Int → Int → Int → LI → LI → Bool → LI → Int → Int → LI → LI → Bool → Bool → Bool → Bool → LA → LA → LA → LA → LA → α) (n : Nat) (rc : Int → Int → LA → Int → LA → LA → Int → Int → LA → LA → Int → Int → LI → LI → Bool → LI → LI → LI → Int → Int → Int → LI → LI → Bool → LI → Int → Int → LI → LI → Int → Bool → Bool → LA → LI → LA → LI → LI → Bool → LI → LI → LI → Int → Int → Int → LI → LI → Bool → LI → Int → Int → LI → LI → Bool → Bool → Bool → Bool → LA → LA → LA → LA → Option α)  (x0 : Int) (x1 : Int) (x2 : LA) (x3 : Int) (x4 : LA) (x5 : LA) (x6 : Int) (x7 : Int) (x8 : LA) (x9 : LA) (x10 : Int) (x11 : Int) (x12 : LI) (x13 : LI) (x14 : Bool) (x15 : LI) (x16 : LI) (x17 : LI) (x18 : Int) (x19 : Int) (x20 : Int) (x21 : LI) (x22 : LI) (x23 : Bool) (x24 : LI) (x25 : Int) (x26 : Int) (x27 : LI) (x28 : LI) (x29 : Int) (x30 : Bool) (x31 : Bool) (x32 : LA) (x33 : LI) (x34 : LA) (x35 : LI) (x36 : LI) (x37 : Bool) (x38 : LI) (x39 : LI) (x40 : LI) (x41 : Int) (x42 : Int) (x43 : Int) (x44 : LI) (x45 : LI) (x46 : Bool) (x47 : LI) (x48 : Int) (x49 : Int) (x50 : LI) (x51 : LI) (x52 : Bool) (x53 : Bool) (x54 : Bool) (x55 : Bool) (x56 : LA) (x57 : LA) (x58 : LA) (x59 : LA) : Option α :=
  if (decide (x0 < x1)) = true then
   if 0 ≤ x0 then
    if x0 < (((List.length x2) : Nat) : Int) then
     bindO (tkAgg 7 (List.getD x2 (Int.toNat x0) AV.any)) fun r10 =>
      bindO (tkInt .u8 (List.getD r10 0 AV.any)) fun r12 =>
       bindO (tkInt .i64 (List.getD r10 1 AV.any)) fun r14 =>
        bindO (tkInts .u8 20 (List.getD r10 2 AV.any)) fun r16 =>
         bindO (tkInts .u64 4 (List.getD r10 3 AV.any)) fun r18 =>
          bindO (tkInts .u64 4 (List.getD r10 4 AV.any)) fun r20 =>
           bindO (tkRints .u8 (List.getD r10 5 AV.any)) fun r22 =>
            bindO (tkInt .u16 (List.getD r10 6 AV.any)) fun r24 =>
             bindO (Fo.m n (r12, r14, r16, r18, r20, r22, r24, x8, x9, x10, x11, x12, x13, x14, x15, x16, x17, x18, x19, x20, x21, x22, x23, x24, x25, x26, x27, x28, x29, x30, x31, x32, x0, x33)) fun r26 =>
              bindO (Fam.l11_0.m n n (0, (((List.length r26) : Nat) : Int), x3, x0, x0, x1, x2, x4, x5, x6, x7, r26, x34, x8, x9, x10, x11, x12, x13, x14, x15, x16, x17, x18, x19, x20, x21, x22, x23, x24, x25, x26, x27, x28, x29, x30, x31, x32, x33, x35, x36, x37, x38, x39, x40, x41, x42, x43, x44, x45, x46, x47, x48, x49, x50, x51, x52, x53, x54, x55, x56, x57, x58, x59)) fun r28 =>
               rc (IntKind.wrap .i64 (r28.1 + 1)) r28.2.1 r28.2.2.1 r28.2.2.2.1 r28.w.1 r28.w.2.1 r28.w.2.2.1 r28.w.2.2.2.1 r28.x.1 r28.x.2.1 r28.x.2.2.1 r28.x.2.2.2.1 r28.x.w.1 r28.x.w.2.1 r28.x.w.2.2.1 r28.x.w.2.2.2.1 r28.y.1 r28.y.2.1 r28.y.2.2.1 r28.y.2.2.2.1 r28.y.w.1 r28.y.w.2.1 r28.y.w.2.2.1 r28.y.w.2.2.2.1 r28.y.x.1 r28.y.x.2.1 r28.y.x.2.2.1 r28.y.x.2.2.2.1 r28.y.x.w.1 r28.y.x.w.2.1 r28.y.x.w.2.2.1 r28.y.x.w.2.2.2.1 r28.y.y.1 r28.y.y.2.1 r28.y.y.2.2.1 r28.y.y.2.2.2.1 r28.y.y.w.1 r28.y.y.w.2.1 r28.y.y.w.2.2.1 r28.y.y.w.2.2.2.1 r28.y.y.x.1 r28.y.y.x.2.1 r28.y.y.x.2.2.1 r28.y.y.x.2.2.2.1 r28.y.y.x.w.1 r28.y.y.x.w.2.1 r28.y.y.x.w.2.2.1 r28.y.y.x.w.2.2.2.1 r28.y.y.y.1 r28.y.y.y.2.1 r28.y.y.y.2.2.1 r28.y.y.y.2.2.2.1 r28.y.y.y.w.1 r28.y.y.y.w.2.1 r28.y.y.y.w.2.2.1 r28.y.y.y.w.2.2.2.1 r28.y.y.y.x.1 r28.y.y.y.x.2.1 r28.y.y.y.x.2.2.1 r28.y.y.y.x.2.2.2
    else
     none
   else
    none
  else
   some (mk0 x3 x4 x5 x6 x7 x35 x36 x37 x38 x39 x40 x41 x42 x43 x44 x45 x46 x47 x48 x49 x50 x51 x52 x53 x54 x55 x56 x57 x58 x59 x34)
def Fam.l8_0.g {α : Type} (mk0 : Int → LA → LA → Int → Int → LI → LI → Bool → LI → LI → LI → Int → Int → Int → LI → LI → Bool → LI → Int → Int → LI → LI → Bool → Bool → Bool → Bool → LA → LA → LA → LA → LA → α) (n : Nat) : Nat → Int → Int → LA → Int → LA → LA → Int → Int → LA → LA → Int → Int → LI → LI → Bool → LI → LI → LI → Int → Int → Int → LI → LI → Bool → LI → Int → Int → LI → LI → Int → Bool → Bool → LA → LI → LA → LI → LI → Bool → LI → LI → LI → Int → Int → Int → LI → LI → Bool → LI → Int → Int → LI → LI → Bool → Bool → Bool → Bool → LA → LA → LA → LA → Option α
 | 0, _, _, _, _, _, _, _, _, _, _, _, _, _, _, _, _, _, _, _, _, _, _, _, _, _, _, _, _, _, _, _, _, _, _, _, _, _, _, _, _, _, _, _, _, _, _, _, _, _, _, _, _, _, _, _, _, _, _, _, _ => none
 | m + 1, x0, x1, x2, x3, x4, x5, x6, x7, x8, x9, x10, x11, x12, x13, x14, x15, x16, x17, x18, x19, x20, x21, x22, x23, x24, x25, x26, x27, x28, x29, x30, x31, x32, x33, x34, x35, x36, x37, x38, x39, x40, x41, x42, x43, x44, x45, x46, x47, x48, x49, x50, x51, x52, x53, x54, x55, x56, x57, x58, x59 => Fam.l8_0.r mk0 n (fun y0 y1 y2 y3 y4 y5 y6 y7 y8 y9 y10 y11 y12 y13 y14 y15 y16 y17 y18 y19 y20 y21 y22 y23 y24 y25 y26 y27 y28 y29 y30 y31 y32 y33 y34 y35 y36 y37 y38 y39 y40 y41 y42 y43 y44 y45 y46 y47 y48 y49 y50 y51 y52 y53 y54 y55 y56 y57 y58 y59 => Fam.l8_0.g mk0 n m y0 y1 y2 y3 y4 y5 y6 y7 y8 y9 y10 y11 y12 y13 y14 y15 y16 y17 y18 y19 y20 y21 y22 y23 y24 y25 y26 y27 y28 y29 y30 y31 y32 y33 y34 y35 y36 y37 y38 y39 y40 y41 y42 y43 y44 y45 y46 y47 y48 y49 y50 y51 y52 y53 y54 y55 y56 y57 y58 y59)  x0 x1 x2 x3 x4 x5 x6 x7 x8 x9 x10 x11 x12 x13 x14 x15 x16 x17 x18 x19 x20 x21 x22 x23 x24 x25 x26 x27 x28 x29 x30 x31 x32 x33 x34 x35 x36 x37 x38 x39 x40 x41 x42 x43 x44 x45 x46 x47 x48 x49 x50 x51 x52 x53 x54 x55 x56 x57 x58 x59
def Fam.l8_0.m (n m : Nat) (t : Ty1) : Option Ty6 := Fam.l8_0.g (fun a0 a1 a2 a3 a4 a5 a6 a7 a8 a9 a10 a11 a12 a13 a14 a15 a16 a17 a18 a19 a20 a21 a22 a23 a24 a25 a26 a27 a28 a29 a30 => (a0, a1, a2, a3, a4, a5, a6, a7, a8, a9, a10, a11, a12, a13, a14, a15, a16, a17, a18, a19, a20, a21, a22, a23, a24, a25, a26, a27, a28, a29, a30)) n m t.1 t.2.1 t.2.2.1 t.2.2.2.1 t.w.1 t.w.2.1 t.w.2.2.1 t.w.2.2.2.1 t.x.1 t.x.2.1 t.x.2.2.1 t.x.2.2.2.1 t.x.w.1 t.x.w.2.1 t.x.w.2.2.1 t.x.w.2.2.2.1 t.y.1 t.y.2.1 t.y.2.2.1 t.y.2.2.2.1 t.y.w.1 t.y.w.2.1 t.y.w.2.2.1 t.y.w.2.2.2.1 t.y.x.1 t.y.x.2.1 t.y.x.2.2.1 t.y.x.2.2.2.1 t.y.x.w.1 t.y.x.w.2.1 t.y.x.w.2.2.1 t.y.x.w.2.2.2.1 t.y.y.1 t.y.y.2.1 t.y.y.2.2.1 t.y.y.2.2.2.1 t.y.y.w.1 t.y.y.w.2.1 t.y.y.w.2.2.1 t.y.y.w.2.2.2.1 t.y.y.x.1 t.y.y.x.2.1 t.y.y.x.2.2.1 t.y.y.x.2.2.2.1 t.y.y.x.w.1 t.y.y.x.w.2.1 t.y.y.x.w.2.2.1 t.y.y.x.w.2.2.2.1 t.y.y.y.1 t.y.y.y.2.1 t.y.y.y.2.2.1 t.y.y.y.2.2.2.1 t.y.y.y.w.1 t.y.y.y.w.2.1 t.y.y.y.w.2.2.1 t.y.y.y.w.2.2.2.1 t.y.y.y.x.1 t.y.y.y.x.2.1 t.y.y.y.x.2.2.1 t.y.y.y.x.2.2.2
def Fam.l8_0.p0 : AV → Option Int
 | (.int .i64 x0) => some x0
 | _ => none
def Fam.l8_0.p1 : AV → Option Int
 | (.int .i64 x1) => some x1
 | _ => none
def Fam.l8_0.p2 : AV → Option LA
 | (.robjs 47 32 x2) => some x2
 | _ => none
def Fam.l8_0.p3 : AV → Option Unit
 | (.ptr 0 []) => some ()
 | _ => none
def Fam.l8_0.p4 : AV → Option Unit
 | (.own 1 1) => some ()
 | _ => none
def Fam.l8_0.p5 : AV → Option Unit
 | (.own 2 3) => some ()
 | _ => none
def Fam.l8_0.p6 : AV → Option Int
 | (.int .u8 x3) => some x3
 | _ => none
def Fam.l8_0.p7 : AV → Option (LA × (LA × (Int × Int)))
 | (.rptr (.agg [(.rmap x4), (.rmap x5), (.rmap []), (.rmap []), (.rmap []), (.rmap []), (.int .i64 x6), .snil, .snil, .snil, (.int .i64 x7)])) => some (x4, x5, x6, x7)
 | _ => none
def Fam.l8_0.p8 : AV → Option Unit
 | (.ptr 3 []) => some ()
 | _ => none
def Fam.l8_0.p9 : AV → Option Unit
 | (.ptr 4 []) => some ()
 | _ => none
def Fam.l8_0.p10 : AV → Option Unit
 | (.ptr 5 []) => some ()
 | _ => none
def Fam.l8_0.p11 : Option Blk → Option Ty9
 | (some (.var (.agg [(.rptr (.agg [(.rmap x8), (.rmap x9), (.rmap []), (.rmap []), (.rmap []), (.rmap []), (.int .i64 x10), .snil, .snil, .snil, (.int .i64 x11)])), (.agg [(.ints .u8 20 x12), (.ints .u64 4 x13), (.bool x14), (.ints .u8 20 x15), (.rints .u8 x16), (.rints .u8 x17), (.int .u64 x18), (.int .u64 x19), (.int .u64 x20), (.ints .u64 4 x21), (.ints .u64 4 x22), (.bool x23), (.ints .u8 20 x24), (.int .u64 x25), (.int .u64 x26), (.rints .u8 x27), (.rints .u8 x28)]), (.int .u8 x29), (.bool x30), (.bool x31), (.robjs 47 32 x32)]))) => some (x8, x9, x10, x11, x12, x13, x14, x15, x16, x17, x18, x19, x20, x21, x22, x23, x24, x25, x26, x27, x28, x29, x30, x31, x32)
 | _ => none
def Fam.l8_0.p12 : Option Blk → Option LI
 | (some (.ints .i64 x33)) => some x33
 | _ => none
def Fam.l8_0.p13 : Option Blk → Option LA
 | (some (.objs 41 3 x34)) => some x34
 | _ => none
def Fam.l8_0.p14 : Option Blk → Option Ty12
 | (some (.var (.agg [(.ints .u8 20 x35), (.ints .u64 4 x36), (.bool x37), (.ints .u8 20 x38), (.rints .u8 x39), (.rints .u8 x40), (.int .u64 x41), (.int .u64 x42), (.int .u64 x43), (.ints .u64 4 x44), (.ints .u64 4 x45), (.bool x46), (.ints .u8 20 x47), (.int .u64 x48), (.int .u64 x49), (.rints .u8 x50), (.rints .u8 x51)]))) => some (x35, x36, x37, x38, x39, x40, x41, x42, x43, x44, x45, x46, x47, x48, x49, x50, x51)
 | _ => none
def Fam.l8_0.p15 : Option Blk → Option (Bool × (Bool × (Bool × Bool)))
 | (some (.var (.agg [(.bool x52), (.bool x53), (.bool x54), (.bool x55)]))) => some (x52, x53, x54, x55)
 | _ => none
def Fam.l8_0.p16 : Option Blk → Option (LA × (LA × (LA × LA)))
 | (some (.var (.agg [(.robjs 47 32 x56), (.robjs 47 32 x57), (.robjs 47 32 x58), (.robjs 47 32 x59)]))) => some (x56, x57, x58, x59)
 | _ => none
def Fam.l8_0.pat : St → Option Ty1
 | (St.mk [s0, s1, s2, s3, s4, s5, s6, s7, s8, s9, s10] [s11, s12, s13, s14, s15, s16]) => bindO (Fam.l8_0.p0 s0) fun a0 => bindO (Fam.l8_0.p1 s1) fun a1 => bindO (Fam.l8_0.p2 s2) fun a2 => bindO (Fam.l8_0.p3 s3) fun a3 => bindO (Fam.l8_0.p4 s4) fun a4 => bindO (Fam.l8_0.p5 s5) fun a5 => bindO (Fam.l8_0.p6 s6) fun a6 => bindO (Fam.l8_0.p7 s7) fun a7 => bindO (Fam.l8_0.p8 s8) fun a8 => bindO (Fam.l8_0.p9 s9) fun a9 => bindO (Fam.l8_0.p10 s10) fun a10 => bindO (Fam.l8_0.p11 s11) fun a11 => bindO (Fam.l8_0.p12 s12) fun a12 => bindO (Fam.l8_0.p13 s13) fun a13 => bindO (Fam.l8_0.p14 s14) fun a14 => bindO (Fam.l8_0.p15 s15) fun a15 => bindO (Fam.l8_0.p16 s16) fun a16 => some (a0, a1, a2, a6, a7.1, a7.2.1, a7.2.2.1, a7.2.2.2, a11.1, a11.2.1, a11.2.2.1, a11.2.2.2.1, a11.2.2.2.2.1, a11.2.2.2.2.2.1, a11.2.2.2.2.2.2.1, a11.2.2.2.2.2.2.2.1, a11.2.2.2.2.2.2.2.2.1, a11.2.2.2.2.2.2.2.2.2.1, a11.2.2.2.2.2.2.2.2.2.2.1, a11.2.2.2.2.2.2.2.2.2.2.2.1, a11.2.2.2.2.2.2.2.2.2.2.2.2.1, a11.2.2.2.2.2.2.2.2.2.2.2.2.2.1, a11.2.2.2.2.2.2.2.2.2.2.2.2.2.2.1, a11.2.2.2.2.2.2.2.2.2.2.2.2.2.2.2.1, a11.2.2.2.2.2.2.2.2.2.2.2.2.2.2.2.2.1, a11.2.2.2.2.2.2.2.2.2.2.2.2.2.2.2.2.2.1, a11.2.2.2.2.2.2.2.2.2.2.2.2.2.2.2.2.2.2.1, a11.2.2.2.2.2.2.2.2.2.2.2.2.2.2.2.2.2.2.2.1, a11.2.2.2.2.2.2.2.2.2.2.2.2.2.2.2.2.2.2.2.2.1, a11.2.2.2.2.2.2.2.2.2.2.2.2.2.2.2.2.2.2.2.2.2.1, a11.2.2.2.2.2.2.2.2.2.2.2.2.2.2.2.2.2.2.2.2.2.2.1, a11.2.2.2.2.2.2.2.2.2.2.2.2.2.2.2.2.2.2.2.2.2.2.2.1, a11.2.2.2.2.2.2.2.2.2.2.2.2.2.2.2.2.2.2.2.2.2.2.2.2, a12, a13, a14.1, a14.2.1, a14.2.2.1, a14.2.2.2.1, a14.2.2.2.2.1, a14.2.2.2.2.2.1, a14.2.2.2.2.2.2.1, a14.2.2.2.2.2.2.2.1, a14.2.2.2.2.2.2.2.2.1, a14.2.2.2.2.2.2.2.2.2.1, a14.2.2.2.2.2.2.2.2.2.2.1, a14.2.2.2.2.2.2.2.2.2.2.2.1, a14.2.2.2.2.2.2.2.2.2.2.2.2.1, a14.2.2.2.2.2.2.2.2.2.2.2.2.2.1, a14.2.2.2.2.2.2.2.2.2.2.2.2.2.2.1, a14.2.2.2.2.2.2.2.2.2.2.2.2.2.2.2.1, a14.2.2.2.2.2.2.2.2.2.2.2.2.2.2.2.2, a15.1, a15.2.1, a15.2.2.1, a15.2.2.2, a16.1, a16.2.1, a16.2.2.1, a16.2.2.2)
 | _ => none
def Fam.l8_0.shape (t : Ty1) : St := (St.mk [(.int .i64 t.1), (.int .i64 t.2.1), (.robjs 47 32 t.2.2.1), (.ptr 0 []), (.own 1 1), (.own 2 3), (.int .u8 t.2.2.2.1), (.rptr (.agg [(.rmap t.w.1), (.rmap t.w.2.1), (.rmap []), (.rmap []), (.rmap []), (.rmap []), (.int .i64 t.w.2.2.1), .snil, .snil, .snil, (.int .i64 t.w.2.2.2.1)])), (.ptr 3 []), (.ptr 4 []), (.ptr 5 [])] [(some (.var (.agg [(.rptr (.agg [(.rmap t.x.1), (.rmap t.x.2.1), (.rmap []), (.rmap []), (.rmap []), (.rmap []), (.int .i64 t.x.2.2.1), .snil, .snil, .snil, (.int .i64 t.x.2.2.2.1)])), (.agg [(.ints .u8 20 t.x.w.1), (.ints .u64 4 t.x.w.2.1), (.bool t.x.w.2.2.1), (.ints .u8 20 t.x.w.2.2.2.1), (.rints .u8 t.y.1), (.rints .u8 t.y.2.1), (.int .u64 t.y.2.2.1), (.int .u64 t.y.2.2.2.1), (.int .u64 t.y.w.1), (.ints .u64 4 t.y.w.2.1), (.ints .u64 4 t.y.w.2.2.1), (.bool t.y.w.2.2.2.1), (.ints .u8 20 t.y.x.1), (.int .u64 t.y.x.2.1), (.int .u64 t.y.x.2.2.1), (.rints .u8 t.y.x.2.2.2.1), (.rints .u8 t.y.x.w.1)]), (.int .u8 t.y.x.w.2.1), (.bool t.y.x.w.2.2.1), (.bool t.y.x.w.2.2.2.1), (.robjs 47 32 t.y.y.1)]))), (some (.ints .i64 t.y.y.2.1)), (some (.objs 41 3 t.y.y.2.2.1)), (some (.var (.agg [(.ints .u8 20 t.y.y.2.2.2.1), (.ints .u64 4 t.y.y.w.1), (.bool t.y.y.w.2.1), (.ints .u8 20 t.y.y.w.2.2.1), (.rints .u8 t.y.y.w.2.2.2.1), (.rints .u8 t.y.y.x.1), (.int .u64 t.y.y.x.2.1), (.int .u64 t.y.y.x.2.2.1), (.int .u64 t.y.y.x.2.2.2.1), (.ints .u64 4 t.y.y.x.w.1), (.ints .u64 4 t.y.y.x.w.2.1), (.bool t.y.y.x.w.2.2.1), (.ints .u8 20 t.y.y.x.w.2.2.2.1), (.int .u64 t.y.y.y.1), (.int .u64 t.y.y.y.2.1), (.rints .u8 t.y.y.y.2.2.1), (.rints .u8 t.y.y.y.2.2.2.1)]))), (some (.var (.agg [(.bool t.y.y.y.w.1), (.bool t.y.y.y.w.2.1), (.bool t.y.y.y.w.2.2.1), (.bool t.y.y.y.w.2.2.2.1)]))), (some (.var (.agg [(.robjs 47 32 t.y.y.y.x.1), (.robjs 47 32 t.y.y.y.x.2.1), (.robjs 47 32 t.y.y.y.x.2.2.1), (.robjs 47 32 t.y.y.y.x.2.2.2)])))])
def Fam.l8_0.res : Ty6 → Ex × St
 | u => ((.exit 2), (St.mk [(.int .u8 u.1), (.rptr (.agg [(.rmap u.2.1), (.rmap u.2.2.1), (.rmap []), (.rmap []), (.rmap []), (.rmap []), (.int .i64 u.2.2.2.1), .snil, .snil, .snil, (.int .i64 u.w.1)])), (.ptr 0 []), (.ptr 1 []), (.ptr 2 []), (.own 3 3)] [(some (.var (.agg [(.ints .u8 20 u.w.2.1), (.ints .u64 4 u.w.2.2.1), (.bool u.w.2.2.2.1), (.ints .u8 20 u.x.1), (.rints .u8 u.x.2.1), (.rints .u8 u.x.2.2.1), (.int .u64 u.x.2.2.2.1), (.int .u64 u.x.w.1), (.int .u64 u.x.w.2.1), (.ints .u64 4 u.x.w.2.2.1), (.ints .u64 4 u.x.w.2.2.2.1), (.bool u.y.1), (.ints .u8 20 u.y.2.1), (.int .u64 u.y.2.2.1), (.int .u64 u.y.2.2.2.1), (.rints .u8 u.y.w.1), (.rints .u8 u.y.w.2.1)]))), (some (.var (.agg [(.bool u.y.w.2.2.1), (.bool u.y.w.2.2.2.1), (.bool u.y.x.1), (.bool u.y.x.2.1)]))), (some (.var (.agg [(.robjs 47 32 u.y.x.2.2.1), (.robjs 47 32 u.y.x.2.2.2.1), (.robjs 47 32 u.y.x.w.1), (.robjs 47 32 u.y.x.w.2.1)]))), (some (.objs 41 3 u.y.x.w.2.2))]))
def Fam.l8_0.resK {R : Type} (u : Ty6) (K : Ex → St → Option R) : Option R := K (Fam.l8_0.res u).1 (Fam.l8_0.res u).2
def Fam.l3_0.r {α : Type} (mk0 : LA → α) (n : Nat) (rc : Int → LA → LA → Int → Int → LI → LI → Bool → LI → LI → LI → Int → Int → Int → LI → LI → Bool → LI → Int → Int → LI → LI → Bool → Bool → Bool → Bool → LA → LA → LA → LA → LA → Option α)  (x0 : Int) (x1 : LA) (x2 : LA) (x3 : Int) (x4 : Int) (x5 : LI) (x6 : LI) (x7 : Bool) (x8 : LI) (x9 : LI) (x10 : LI) (x11 : Int) (x12 : Int) (x13 : Int) (x14 : LI) (x15 : LI) (x16 : Bool) (x17 : LI) (x18 : Int) (x19 : Int) (x20 : LI) (x21 : LI) (x22 : Bool) (x23 : Bool) (x24 : Bool) (x25 : Bool) (x26 : LA) (x27 : LA) (x28 : LA) (x29 : LA) (x30 : LA) : Option α :=
  if (decide (x0 ≤ 3)) = true then
   if x0 = 1 then
    if x7 = true then
     bindO (Fal.m n x27) fun r10 =>
      bindO (Fam.l8_0.m n n (0, (((List.length x27) : Nat) : Int), x27, 1, x1, x2, x3, x4, x1, x2, x3, x4, x5, x6, x7, x8, x9, x10, x11, x12, x13, x14, x15, x16, x17, x18, x19, x20, x21, 1, x23, (!x24), x27, r10, x30, x5, x6, x7, x8, x9, x10, x11, x12, x13, x14, x15, x16, x17, x18, x19, x20, x21, x22, x23, x24, x25, x26, x27, x28, x29)) fun r12 =>
       rc (IntKind.wrap .u8 (r12.1 + 1)) r12.2.1 r12.2.2.1 r12.2.2.2.1 r12.w.1 r12.w.2.1 r12.w.2.2.1 r12.w.2.2.2.1 r12.x.1 r12.x.2.1 r12.x.2.2.1 r12.x.2.2.2.1 r12.x.w.1 r12.x.w.2.1 r12.x.w.2.2.1 r12.x.w.2.2.2.1 r12.y.1 r12.y.2.1 r12.y.2.2.1 r12.y.2.2.2.1 r12.y.w.1 r12.y.w.2.1 r12.y.w.2.2.1 r12.y.w.2.2.2.1 r12.y.x.1 r12.y.x.2.1 r12.y.x.2.2.1 r12.y.x.2.2.2.1 r12.y.x.w.1 r12.y.x.w.2.1 r12.y.x.w.2.2
    else
     bindO (Fal.m n x27) fun r10 =>
      bindO (Fam.l8_0.m n n (0, (((List.length x27) : Nat) : Int), x27, 1, x1, x2, x3, x4, x1, x2, x3, x4, x5, x6, x7, x8, x9, x10, x11, x12, x13, x14, x15, x16, x17, x18, x19, x20, x21, 1, x23, false, x27, r10, x30, x5, x6, x7, x8, x9, x10, x11, x12, x13, x14, x15, x16, x17, x18, x19, x20, x21, x22, x23, x24, x25, x26, x27, x28, x29)) fun r12 =>
       rc (IntKind.wrap .u8 (r12.1 + 1)) r12.2.1 r12.2.2.1 r12.2.2.2.1 r12.w.1 r12.w.2.1 r12.w.2.2.1 r12.w.2.2.2.1 r12.x.1 r12.x.2.1 r12.x.2.2.1 r12.x.2.2.2.1 r12.x.w.1 r12.x.w.2.1 r12.x.w.2.2.1 r12.x.w.2.2.2.1 r12.y.1 r12.y.2.1 r12.y.2.2.1 r12.y.2.2.2.1 r12.y.w.1 r12.y.w.2.1 r12.y.w.2.2.1 r12.y.w.2.2.2.1 r12.y.x.1 r12.y.x.2.1 r12.y.x.2.2.1 r12.y.x.2.2.2.1 r12.y.x.w.1 r12.y.x.w.2.1 r12.y.x.w.2.2
   else
    if x0 = 2 then
     if x7 = true then
      bindO (Fal.m n x28) fun r12 =>
       bindO (Fam.l8_0.m n n (0, (((List.length x28) : Nat) : Int), x28, 2, x1, x2, x3, x4, x1, x2, x3, x4, x5, x6, x7, x8, x9, x10, x11, x12, x13, x14, x15, x16, x17, x18, x19, x20, x21, 2, x24, (!x24), x28, r12, x30, x5, x6, x7, x8, x9, x10, x11, x12, x13, x14, x15, x16, x17, x18, x19, x20, x21, x22, x23, x24, x25, x26, x27, x28, x29)) fun r14 =>
        rc (IntKind.wrap .u8 (r14.1 + 1)) r14.2.1 r14.2.2.1 r14.2.2.2.1 r14.w.1 r14.w.2.1 r14.w.2.2.1 r14.w.2.2.2.1 r14.x.1 r14.x.2.1 r14.x.2.2.1 r14.x.2.2.2.1 r14.x.w.1 r14.x.w.2.1 r14.x.w.2.2.1 r14.x.w.2.2.2.1 r14.y.1 r14.y.2.1 r14.y.2.2.1 r14.y.2.2.2.1 r14.y.w.1 r14.y.w.2.1 r14.y.w.2.2.1 r14.y.w.2.2.2.1 r14.y.x.1 r14.y.x.2.1 r14.y.x.2.2.1 r14.y.x.2.2.2.1 r14.y.x.w.1 r14.y.x.w.2.1 r14.y.x.w.2.2
     else
      bindO (Fal.m n x28) fun r12 =>
       bindO (Fam.l8_0.m n n (0, (((List.length x28) : Nat) : Int), x28, 2, x1, x2, x3, x4, x1, x2, x3, x4, x5, x6, x7, x8, x9, x10, x11, x12, x13, x14, x15, x16, x17, x18, x19, x20, x21, 2, x24, false, x28, r12, x30, x5, x6, x7, x8, x9, x10, x11, x12, x13, x14, x15, x16, x17, x18, x19, x20, x21, x22, x23, x24, x25, x26, x27, x28, x29)) fun r14 =>
        rc (IntKind.wrap .u8 (r14.1 + 1)) r14.2.1 r14.2.2.1 r14.2.2.2.1 r14.w.1 r14.w.2.1 r14.w.2.2.1 r14.w.2.2.2.1 r14.x.1 r14.x.2.1 r14.x.2.2.1 r14.x.2.2.2.1 r14.x.w.1 r14.x.w.2.1 r14.x.w.2.2.1 r14.x.w.2.2.2.1 r14.y.1 r14.y.2.1 r14.y.2.2.1 r14.y.2.2.2.1 r14.y.w.1 r14.y.w.2.1 r14.y.w.2.2.1 r14.y.w.2.2.2.1 r14.y.x.1 r14.y.x.2.1 r14.y.x.2.2.1 r14.y.x.2.2.2.1 r14.y.x.w.1 r14.y.x.w.2.1 r14.y.x.w.2.2
    else
     if x0 = 3 then
      if x7 = true then
       bindO (Fal.m n x29) fun r14 =>
        bindO (Fam.l8_0.m n n (0, (((List.length x29) : Nat) : Int), x29, 3, x1, x2, x3, x4, x1, x2, x3, x4, x5, x6, x7, x8, x9, x10, x11, x12, x13, x14, x15, x16, x17, x18, x19, x20, x21, 3, x25, (!x24), x29, r14, x30, x5, x6, x7, x8, x9, x10, x11, x12, x13, x14, x15, x16, x17, x18, x19, x20, x21, x22, x23, x24, x25, x26, x27, x28, x29)) fun r16 =>
         rc (IntKind.wrap .u8 (r16.1 + 1)) r16.2.1 r16.2.2.1 r16.2.2.2.1 r16.w.1 r16.w.2.1 r16.w.2.2.1 r16.w.2.2.2.1 r16.x.1 r16.x.2.1 r16.x.2.2.1 r16.x.2.2.2.1 r16.x.w.1 r16.x.w.2.1 r16.x.w.2.2.1 r16.x.w.2.2.2.1 r16.y.1 r16.y.2.1 r16.y.2.2.1 r16.y.2.2.2.1 r16.y.w.1 r16.y.w.2.1 r16.y.w.2.2.1 r16.y.w.2.2.2.1 r16.y.x.1 r16.y.x.2.1 r16.y.x.2.2.1 r16.y.x.2.2.2.1 r16.y.x.w.1 r16.y.x.w.2.1 r16.y.x.w.2.2
      else
       bindO (Fal.m n x29) fun r14 =>
        bindO (Fam.l8_0.m n n (0, (((List.length x29) : Nat) : Int), x29, 3, x1, x2, x3, x4, x1, x2, x3, x4, x5, x6, x7, x8, x9, x10, x11, x12, x13, x14, x15, x16, x17, x18, x19, x20, x21, 3, x25, false, x29, r14, x30, x5, x6, x7, x8, x9, x10, x11, x12, x13, x14, x15, x16, x17, x18, x19, x20, x21, x22, x23, x24, x25, x26, x27, x28, x29)) fun r16 =>
         rc (IntKind.wrap .u8 (r16.1 + 1)) r16.2.1 r16.2.2.1 r16.2.2.2.1 r16.w.1 r16.w.2.1 r16.w.2.2.1 r16.w.2.2.2.1 r16.x.1 r16.x.2.1 r16.x.2.2.1 r16.x.2.2.2.1 r16.x.w.1 r16.x.w.2.1 r16.x.w.2.2.1 r16.x.w.2.2.2.1 r16.y.1 r16.y.2.1 r16.y.2.2.1 r16.y.2.2.2.1 r16.y.w.1 r16.y.w.2.1 r16.y.w.2.2.1 r16.y.w.2.2.2.1 r16.y.x.1 r16.y.x.2.1 r16.y.x.2.2.1 r16.y.x.2.2.2.1 r16.y.x.w.1 r16.y.x.w.2.1 r16.y.x.w.2.2
     else
      none
  else
   some (mk0 x30)
def Fam.l3_0.g {α : Type} (mk0 : LA → α) (n : Nat) : Nat → Int → LA → LA → Int → Int → LI → LI → Bool → LI → LI → LI → Int → Int → Int → LI → LI → Bool → LI → Int → Int → LI → LI → Bool → Bool → Bool → Bool → LA → LA → LA → LA → LA → Option α
 | 0, _, _, _, _, _, _, _, _, _, _, _, _, _, _, _, _, _, _, _, _, _, _, _, _, _, _, _, _, _, _, _ => none
 | m + 1, x0, x1, x2, x3, x4, x5, x6, x7, x8, x9, x10, x11, x12, x13, x14, x15, x16, x17, x18, x19, x20, x21, x22, x23, x24, x25, x26, x27, x28, x29, x30 => Fam.l3_0.r mk0 n (fun y0 y1 y2 y3 y4 y5 y6 y7 y8 y9 y10 y11 y12 y13 y14 y15 y16 y17 y18 y19 y20 y21 y22 y23 y24 y25 y26 y27 y28 y29 y30 => Fam.l3_0.g mk0 n m y0 y1 y2 y3 y4 y5 y6 y7 y8 y9 y10 y11 y12 y13 y14 y15 y16 y17 y18 y19 y20 y21 y22 y23 y24 y25 y26 y27 y28 y29 y30)  x0 x1 x2 x3 x4 x5 x6 x7 x8 x9 x10 x11 x12 x13 x14 x15 x16 x17 x18 x19 x20 x21 x22 x23 x24 x25 x26 x27 x28 x29 x30
def Fam.l3_0.m (n m : Nat) (t : Ty6) : Option LA := Fam.l3_0.g (fun a0 => a0) n m t.1 t.2.1 t.2.2.1 t.2.2.2.1 t.w.1 t.w.2.1 t.w.2.2.1 t.w.2.2.2.1 t.x.1 t.x.2.1 t.x.2.2.1 t.x.2.2.2.1 t.x.w.1 t.x.w.2.1 t.x.w.2.2.1 t.x.w.2.2.2.1 t.y.1 t.y.2.1 t.y.2.2.1 t.y.2.2.2.1 t.y.w.1 t.y.w.2.1 t.y.w.2.2.1 t.y.w.2.2.2.1 t.y.x.1 t.y.x.2.1 t.y.x.2.2.1 t.y.x.2.2.2.1 t.y.x.w.1 t.y.x.w.2.1 t.y.x.w.2.2
def Fam.l3_0.pat : St → Option Ty6
 | (St.mk [(.int .u8 x0), (.rptr (.agg [(.rmap x1), (.rmap x2), (.rmap []), (.rmap []), (.rmap []), (.rmap []), (.int .i64 x3), .snil, .snil, .snil, (.int .i64 x4)])), (.ptr 0 []), (.ptr 1 []), (.ptr 2 []), (.own 3 3)] [(some (.var (.agg [(.ints .u8 20 x5), (.ints .u64 4 x6), (.bool x7), (.ints .u8 20 x8), (.rints .u8 x9), (.rints .u8 x10), (.int .u64 x11), (.int .u64 x12), (.int .u64 x13), (.ints .u64 4 x14), (.ints .u64 4 x15), (.bool x16), (.ints .u8 20 x17), (.int .u64 x18), (.int .u64 x19), (.rints .u8 x20), (.rints .u8 x21)]))), (some (.var (.agg [(.bool x22), (.bool x23), (.bool x24), (.bool x25)]))), (some (.var (.agg [(.robjs 47 32 x26), (.robjs 47 32 x27), (.robjs 47 32 x28), (.robjs 47 32 x29)]))), (some (.objs 41 3 x30))]) => some (x0, x1, x2, x3, x4, x5, x6, x7, x8, x9, x10, x11, x12, x13, x14, x15, x16, x17, x18, x19, x20, x21, x22, x23, x24, x25, x26, x27, x28, x29, x30)
 | _ => none
def Fam.l3_0.shape (t : Ty6) : St := (St.mk [(.int .u8 t.1), (.rptr (.agg [(.rmap t.2.1), (.rmap t.2.2.1), (.rmap []), (.rmap []), (.rmap []), (.rmap []), (.int .i64 t.2.2.2.1), .snil, .snil, .snil, (.int .i64 t.w.1)])), (.ptr 0 []), (.ptr 1 []), (.ptr 2 []), (.own 3 3)] [(some (.var (.agg [(.ints .u8 20 t.w.2.1), (.ints .u64 4 t.w.2.2.1), (.bool t.w.2.2.2.1), (.ints .u8 20 t.x.1), (.rints .u8 t.x.2.1), (.rints .u8 t.x.2.2.1), (.int .u64 t.x.2.2.2.1), (.int .u64 t.x.w.1), (.int .u64 t.x.w.2.1), (.ints .u64 4 t.x.w.2.2.1), (.ints .u64 4 t.x.w.2.2.2.1), (.bool t.y.1), (.ints .u8 20 t.y.2.1), (.int .u64 t.y.2.2.1), (.int .u64 t.y.2.2.2.1), (.rints .u8 t.y.w.1), (.rints .u8 t.y.w.2.1)]))), (some (.var (.agg [(.bool t.y.w.2.2.1), (.bool t.y.w.2.2.2.1), (.bool t.y.x.1), (.bool t.y.x.2.1)]))), (some (.var (.agg [(.robjs 47 32 t.y.x.2.2.1), (.robjs 47 32 t.y.x.2.2.2.1), (.robjs 47 32 t.y.x.w.1), (.robjs 47 32 t.y.x.w.2.1)]))), (some (.objs 41 3 t.y.x.w.2.2))])
def Fam.l3_0.res : LA → Ex × St
 | u => ((.exit 0), (St.mk [(.own 0 3)] [(some (.objs 41 3 u))]))
def Fam.l3_0.resK {R : Type} (u : LA) (K : Ex → St → Option R) : Option R := K (Fam.l3_0.res u).1 (Fam.l3_0.res u).2
noncomputable def Fam.A (n : Nat) : Ann := ⟨Tryd.f10.ntmps, 0, Fam.live, [(47, (.objs 47 32)), (59, (.ints .u8)), (12, (.ints .i64)), (9, (.objs 41 3))], [(some (.objs 41 3))], fun k => match k with
 | 11 => some (.mk' Fam.l11_0.pat (Fam.l11_0.m n n) Fam.l11_0.resK)
 | 8 => some (.mk' Fam.l8_0.pat (Fam.l8_0.m n n) Fam.l8_0.resK)
 | 3 => some (.mk' Fam.l3_0.pat (Fam.l3_0.m n n) Fam.l3_0.resK)
 | _ => none, noNL, lookJ []⟩
noncomputable def Fam.b0 : Code := (loopsIn (Tryd.f10.body.getD .skip)).getD 0 .skip
noncomputable def Fam.b1 : Code := (loopsIn (Tryd.f10.body.getD .skip)).getD 1 .skip
noncomputable def Fam.b2 : Code := (loopsIn (Tryd.f10.body.getD .skip)).getD 2 .skip
def Fam.g {α : Type} (mk0 : LA → α) (n : Nat) (a0_0 : LA) (a0_1 : LA) (a0_6 : Int) (a0_10 : Int) (a1_0 : LI) (a1_1 : LI) (a1_2 : Bool) (a1_3 : LI) (a1_4 : LI) (a1_5 : LI) (a1_6 : Int) (a1_7 : Int) (a1_8 : Int) (a1_9 : LI) (a1_10 : LI) (a1_11 : Bool) (a1_12 : LI) (a1_13 : Int) (a1_14 : Int) (a1_15 : LI) (a1_16 : LI) (a2_0 : LA) (a2_1 : LA) (a2_2 : LA) (a2_3 : LA) (a3_0 : Bool) (a3_1 : Bool) (a3_2 : Bool) (a3_3 : Bool) : Option α :=
 bindO (Fam.l3_0.m n n (1, a0_0, a0_1, a0_6, a0_10, a1_0, a1_1, a1_2, a1_3, a1_4, a1_5, a1_6, a1_7, a1_8, a1_9, a1_10, a1_11, a1_12, a1_13, a1_14, a1_15, a1_16, a3_0, a3_1, a3_2, a3_3, a2_0, a2_1, a2_2, a2_3, [])) fun r2 =>
  some (mk0 r2)
def Fam.m (n : Nat) (t : Ty8) : Option LA := Fam.g (fun a0 => a0) n t.1 t.2.1 t.2.2.1 t.2.2.2.1 t.w.1 t.w.2.1 t.w.2.2.1 t.w.2.2.2.1 t.x.1 t.x.2.1 t.x.2.2.1 t.x.2.2.2.1 t.x.w.1 t.x.w.2.1 t.x.w.2.2.1 t.x.w.2.2.2.1 t.y.1 t.y.2.1 t.y.2.2.1 t.y.2.2.2.1 t.y.w.1 t.y.w.2.1 t.y.w.2.2.1 t.y.w.2.2.2.1 t.y.x.1 t.y.x.2.1 t.y.x.2.2.1 t.y.x.2.2.2.1 t.y.x.w
def Fam.pat : List AV → Blks → Option Ty8
 | [(.rptr (.agg [(.rmap a0_0), (.rmap a0_1), (.rmap []), (.rmap []), (.rmap []), (.rmap []), (.int .i64 a0_6), .snil, .snil, .snil, (.int .i64 a0_10)])), (.agg [(.ints .u8 20 a1_0), (.ints .u64 4 a1_1), (.bool a1_2), (.ints .u8 20 a1_3), (.rints .u8 a1_4), (.rints .u8 a1_5), (.int .u64 a1_6), (.int .u64 a1_7), (.int .u64 a1_8), (.ints .u64 4 a1_9), (.ints .u64 4 a1_10), (.bool a1_11), (.ints .u8 20 a1_12), (.int .u64 a1_13), (.int .u64 a1_14), (.rints .u8 a1_15), (.rints .u8 a1_16)]), (.agg [(.robjs 47 32 a2_0), (.robjs 47 32 a2_1), (.robjs 47 32 a2_2), (.robjs 47 32 a2_3)]), (.agg [(.bool a3_0), (.bool a3_1), (.bool a3_2), (.bool a3_3)])], [] => some (a0_0, a0_1, a0_6, a0_10, a1_0, a1_1, a1_2, a1_3, a1_4, a1_5, a1_6, a1_7, a1_8, a1_9, a1_10, a1_11, a1_12, a1_13, a1_14, a1_15, a1_16, a2_0, a2_1, a2_2, a2_3, a3_0, a3_1, a3_2, a3_3)
 | _, _ => none
def Fam.shape (t : Ty8) : List AV × Blks := ([(.rptr (.agg [(.rmap t.1), (.rmap t.2.1), (.rmap []), (.rmap []), (.rmap []), (.rmap []), (.int .i64 t.2.2.1), .snil, .snil, .snil, (.int .i64 t.2.2.2.1)])), (.agg [(.ints .u8 20 t.w.1), (.ints .u64 4 t.w.2.1), (.bool t.w.2.2.1), (.ints .u8 20 t.w.2.2.2.1), (.rints .u8 t.x.1), (.rints .u8 t.x.2.1), (.int .u64 t.x.2.2.1), (.int .u64 t.x.2.2.2.1), (.int .u64 t.x.w.1), (.ints .u64 4 t.x.w.2.1), (.ints .u64 4 t.x.w.2.2.1), (.bool t.x.w.2.2.2.1), (.ints .u8 20 t.y.1), (.int .u64 t.y.2.1), (.int .u64 t.y.2.2.1), (.rints .u8 t.y.2.2.2.1), (.rints .u8 t.y.w.1)]), (.agg [(.robjs 47 32 t.y.w.2.1), (.robjs 47 32 t.y.w.2.2.1), (.robjs 47 32 t.y.w.2.2.2.1), (.robjs 47 32 t.y.x.1)]), (.agg [(.bool t.y.x.2.1), (.bool t.y.x.2.2.1), (.bool t.y.x.2.2.2.1), (.bool t.y.x.w)])], [])
def Fam.res : LA → AV × Blks
 | u => ((.own 0 3), [(some (.objs 41 3 u))])
def Fam.resK {R : Type} (u : LA) (K : AV → Blks → Option R) : Option R := K (Fam.res u).1 (Fam.res u).2
def Fam.c (n : Nat) : Abs.Callee := .mk' [] [none, (some (.agg [none, none, none, none, (some (.ints .u8)), (some (.ints .u8)), none, none, none, none, none, none, none, none, none, (some (.ints .u8)), (some (.ints .u8))])), (some (.agg [(some (.objs 47 32)), (some (.objs 47 32)), (some (.objs 47 32)), (some (.objs 47 32))])), none] Fam.pat (Fam.m n) Fam.resK
end
end
section
noncomputable section
noncomputable def Fg.C (n : Nat) : Ctx := ⟨Tryd.prog, kecG, lookC [], fun _ => false⟩
noncomputable def Fg.A (n : Nat) : Ann := ⟨Tryd.f33.ntmps, 0, noNL, [], [none], fun k => match k with
 | _ => none, noNL, lookJ []⟩
def Fg.g {α : Type} (mk0 : Bool → α) (n : Nat) (ad : LI) (k : LI) (v : LI) (o : LI) : Option α :=
 some (mk0 (ad == o))
def Fg.m (n : Nat) (t : (LI × (LI × (LI × LI)))) : Option Bool := Fg.g (fun a0 => a0) n t.1 t.2.1 t.2.2.1 t.2.2.2
def Fg.pat : List AV → Blks → Option (LI × (LI × (LI × LI)))
 | [(.agg [(.ints .u8 20 ad), (.ints .u64 4 k)]), (.ints .u64 4 v), (.rptr (.ints .u8 20 o))], [] => some (ad, k, v, o)
 | _, _ => none
def Fg.shape (t : (LI × (LI × (LI × LI)))) : List AV × Blks := ([(.agg [(.ints .u8 20 t.1), (.ints .u64 4 t.2.1)]), (.ints .u64 4 t.2.2.1), (.rptr (.ints .u8 20 t.2.2.2))], [])
def Fg.res : Bool → AV × Blks
 | u => ((.bool u), [])
def Fg.resK {R : Type} (u : Bool) (K : AV → Blks → Option R) : Option R := K (Fg.res u).1 (Fg.res u).2
def Fg.c (n : Nat) : Abs.Callee := .mk' [] [none, none] Fg.pat (Fg.m n) Fg.resK
end
end
section
namespace Go.Abs
def dfDec (x : AV) : Option (List Int × List Int) := match x with
  | .agg [.agg [.ints .u8 20 ad, .ints .u64 4 k], .ints .u64 4 _] => some (ad, k)
  | _ => none
def dfDrop (a : List Int) (x : AV) : Bool := match dfDec x with
  | some p => p.1 == a
  | none => false
def dfOk (l : List AV) : Bool := l.all (fun x => (dfDec x).isSome) && decide (l.map dfDec).Nodup
end Go.Abs
end
section
noncomputable section
def Fa.m (n : Nat) (t : LI × LA) : Option LA := if dfOk t.2 = true then some (t.2.filter fun x => !dfDrop t.1 x) else none
def Fa.pat : List AV → Blks → Option (LI × LA)
 | [(.own 0 0), (.fn (.func 33) [] [(.rptr (.ints .u8 20 a))])], [(some (.mp l))] => some (a, l)
 | _, _ => none
def Fa.shape (t : LI × LA) : List AV × Blks := ([(.own 0 0), (.fn (.func 33) [] [(.rptr (.ints .u8 20 t.1))])], [(some (.mp t.2))])
def Fa.res : LA → AV × Blks
 | u => ((.tup []), [(some (.mp u))])
def Fa.resK {R : Type} (u : LA) (K : AV → Blks → Option R) : Option R := K (Fa.res u).1 (Fa.res u).2
def Fa.c (n : Nat) : Abs.Callee := .mk' [true, false] [none, none] Fa.pat (Fa.m n) Fa.resK
end
end
section
noncomputable section
noncomputable def Fp.C (n : Nat) : Ctx := ⟨Tryd.prog, kecG, lookC [(33, Fg.c n), (32, Fa.c n)], fun t => t == 24⟩
noncomputable def Fp.A (n : Nat) : Ann := ⟨Tryd.f18.ntmps, 3, noNL, [], [], fun k => match k with
 | _ => none, noNL, lookJ []⟩
def Fp.g {α : Type} (mk0 : Int → Int → LA → LA → α) (n : Nat) (a : LI) (r : Int) (x : Int) (p : LA) (q : LA) : Option α :=
 bindO (Go.Abs.mdelL (AV.ints .u8 20 a) p) fun r2 =>
  bindO (Fa.m n (a, q)) fun r4 =>
   some (mk0 r x r2 r4)
def Fp.m (n : Nat) (t : (LI × (Int × (Int × (LA × LA))))) : Option (Int × (Int × (LA × LA))) := Fp.g (fun a0 a1 a2 a3 => (a0, a1, a2, a3)) n t.1 t.2.1 t.2.2.1 t.2.2.2.1 t.w
def Fp.pat : List AV → Blks → Option (LI × (Int × (Int × (LA × LA))))
 | [(.ptr 0 []), (.ints .u8 20 a)], [(some (.var (.agg [(.own 1 0), (.own 2 0), (.raw (.map none)), (.raw (.map none)), (.raw (.map none)), (.raw (.map none)), (.int .i64 r), .snil, .snil, .snil, (.int .i64 x)]))), (some (.mp p)), (some (.mp q))] => some (a, r, x, p, q)
 | _, _ => none
def Fp.shape (t : (LI × (Int × (Int × (LA × LA))))) : List AV × Blks := ([(.ptr 0 []), (.ints .u8 20 t.1)], [(some (.var (.agg [(.own 1 0), (.own 2 0), (.raw (.map none)), (.raw (.map none)), (.raw (.map none)), (.raw (.map none)), (.int .i64 t.2.1), .snil, .snil, .snil, (.int .i64 t.2.2.1)]))), (some (.mp t.2.2.2.1)), (some (.mp t.w))])
def Fp.res : (Int × (Int × (LA × LA))) → AV × Blks
 | u => ((.tup []), [(some (.var (.agg [(.own 1 0), (.own 2 0), (.raw (.map none)), (.raw (.map none)), (.raw (.map none)), (.raw (.map none)), (.int .i64 u.1), .snil, .snil, .snil, (.int .i64 u.2.1)]))), (some (.mp u.2.2.1)), (some (.mp u.2.2.2))])
def Fp.resK {R : Type} (u : (Int × (Int × (LA × LA)))) (K : AV → Blks → Option R) : Option R := K (Fp.res u).1 (Fp.res u).2
def Fp.c (n : Nat) : Abs.Callee := .mk' [true, false] [none, none] Fp.pat (Fp.m n) Fp.resK
end
end
section
noncomputable section
noncomputable def Fy.C (n : Nat) : Ctx := ⟨Tryd.prog, kecG, lookC [], fun _ => false⟩
noncomputable def Fy.A (n : Nat) : Ann := ⟨Tryd.f19.ntmps, 3, noNL, [], [], fun k => match k with
 | _ => none, noNL, lookJ []⟩
def Fy.g {α : Type} (mk0 : Int → Int → LA → LA → α) (n : Nat) (r : Int) (x : Int) (p : LA) (q : LA) : Option α :=
 some (mk0 0 0 p q)
def Fy.m (n : Nat) (t : (Int × (Int × (LA × LA)))) : Option (Int × (Int × (LA × LA))) := Fy.g (fun a0 a1 a2 a3 => (a0, a1, a2, a3)) n t.1 t.2.1 t.2.2.1 t.2.2.2
def Fy.pat : List AV → Blks → Option (Int × (Int × (LA × LA)))
 | [(.ptr 0 [])], [(some (.var (.agg [(.own 1 0), (.own 2 0), (.raw (.map none)), (.raw (.map none)), (.raw (.map none)), (.raw (.map none)), (.int .i64 r), .snil, .snil, .snil, (.int .i64 x)]))), (some (.mp p)), (some (.mp q))] => some (r, x, p, q)
 | _, _ => none
def Fy.shape (t : (Int × (Int × (LA × LA)))) : List AV × Blks := ([(.ptr 0 [])], [(some (.var (.agg [(.own 1 0), (.own 2 0), (.raw (.map none)), (.raw (.map none)), (.raw (.map none)), (.raw (.map none)), (.int .i64 t.1), .snil, .snil, .snil, (.int .i64 t.2.1)]))), (some (.mp t.2.2.1)), (some (.mp t.2.2.2))])
def Fy.res : (Int × (Int × (LA × LA))) → AV × Blks
 | u => ((.tup []), [(some (.var (.agg [(.own 1 0), (.own 2 0), (.rmap []), (.rmap []), (.rmap []), (.rmap []), (.int .i64 u.1), .snil, .snil, .snil, (.int .i64 u.2.1)]))), (some (.mp u.2.2.1)), (some (.mp u.2.2.2))])
def Fy.resK {R : Type} (u : (Int × (Int × (LA × LA)))) (K : AV → Blks → Option R) : Option R := K (Fy.res u).1 (Fy.res u).2
def Fy.c (n : Nat) : Abs.Callee := .mk' [true] [none] Fy.pat (Fy.m n) Fy.resK
end
end
section
noncomputable section
noncomputable def Fax.C (n : Nat) : Ctx := ⟨Tryd.prog, kecG, lookC [(18, Fp.c n), (19, Fy.c n)], fun t => t == 7000059 || t == 7000060⟩
def Fax.live : NL := fun k => match k with
 | 3 => ([14, 13, 12, 3], [3])
 | 8 => ([43, 42, 41, 3, 5, 14, 13, 12], [14, 13, 12, 3])
 | _ => ([], [])
def Fax.l8_0.r {α : Type} (mk0 : Int → Int → LA → Int → Int → LA → LA → α) (n : Nat) (rc : Int → Int → LA → Int → Int → LA → Int → Int → LI → Int → LI → LI → LA → LA → LA → Option α)  (x0 : Int) (x1 : Int) (x2 : LA) (x3 : Int) (x4 : Int) (x5 : LA) (x6 : Int) (x7 : Int) (x8 : LI) (x9 : Int) (x10 : LI) (x11 : LI) (x12 : LA) (x13 : LA) (x14 : LA) : Option α :=
  if (decide (x0 < x1)) = true then
   if 0 ≤ x0 then
    if x0 < (((List.length x2) : Nat) : Int) then
     bindO (tkAgg 2 (List.getD x2 (Int.toNat x0) AV.any)) fun r10 =>
      bindO (tkInts .u64 4 (List.getD r10 0 AV.any)) fun r12 =>
       bindO (tkInts .u64 4 (List.getD r10 1 AV.any)) fun r14 =>
        bindO (Go.Abs.mputL (AV.agg [(AV.ints .u8 20 x8), (AV.ints .u64 4 r12)]) (AV.ints .u64 4 r14) x14) fun r16 =>
         rc (IntKind.wrap .i64 (x0 + 1)) x1 x2 x3 x4 x5 x6 x7 x8 x9 x10 x11 x12 x13 r16
    else
     none
   else
    none
  else
   some (mk0 x3 x4 x5 x6 x7 x13 x14)
def Fax.l8_0.g {α : Type} (mk0 : Int → Int → LA → Int → Int → LA → LA → α) (n : Nat) : Nat → Int → Int → LA → Int → Int → LA → Int → Int → LI → Int → LI → LI → LA → LA → LA → Option α
 | 0, _, _, _, _, _, _, _, _, _, _, _, _, _, _, _ => none
 | m + 1, x0, x1, x2, x3, x4, x5, x6, x7, x8, x9, x10, x11, x12, x13, x14 => Fax.l8_0.r mk0 n (fun y0 y1 y2 y3 y4 y5 y6 y7 y8 y9 y10 y11 y12 y13 y14 => Fax.l8_0.g mk0 n m y0 y1 y2 y3 y4 y5 y6 y7 y8 y9 y10 y11 y12 y13 y14)  x0 x1 x2 x3 x4 x5 x6 x7 x8 x9 x10 x11 x12 x13 x14
def Fax.l8_0.m (n m : Nat) (t : Ty13) : Option Ty15 := Fax.l8_0.g (fun a0 a1 a2 a3 a4 a5 a6 => (a0, a1, a2, a3, a4, a5, a6)) n m t.1 t.2.1 t.2.2.1 t.2.2.2.1 t.w.1 t.w.2.1 t.w.2.2.1 t.w.2.2.2.1 t.x.1 t.x.2.1 t.x.2.2.1 t.x.2.2.2.1 t.x.w.1 t.x.w.2.1 t.x.w.2.2
def Fax.l8_0.pat : St → Option Ty13
 | (St.mk [(.int .i64 x0), (.int .i64 x1), (.robjs 77 8 x2), (.ptr 0 []), (.ptr 1 []), (.int .i64 x3), (.int .i64 x4), (.robjs 72 27 x5)] [(some (.var (.agg [(.own 2 0), (.own 3 0), (.raw (.map none)), (.raw (.map none)), (.raw (.map none)), (.raw (.map none)), (.int .i64 x6), .snil, .snil, .snil, (.int .i64 x7)]))), (some (.var (.agg [(.ints .u8 20 x8), (.agg [(.int .u64 x9), (.ints .u64 4 x10), (.rints .u8 x11), (.robjs 77 8 x12)])]))), (some (.mp x13)), (some (.mp x14))]) => some (x0, x1, x2, x3, x4, x5, x6, x7, x8, x9, x10, x11, x12, x13, x14)
 | _ => none
def Fax.l8_0.shape (t : Ty13) : St := (St.mk [(.int .i64 t.1), (.int .i64 t.2.1), (.robjs 77 8 t.2.2.1), (.ptr 0 []), (.ptr 1 []), (.int .i64 t.2.2.2.1), (.int .i64 t.w.1), (.robjs 72 27 t.w.2.1)] [(some (.var (.agg [(.own 2 0), (.own 3 0), (.raw (.map none)), (.raw (.map none)), (.raw (.map none)), (.raw (.map none)), (.int .i64 t.w.2.2.1), .snil, .snil, .snil, (.int .i64 t.w.2.2.2.1)]))), (some (.var (.agg [(.ints .u8 20 t.x.1), (.agg [(.int .u64 t.x.2.1), (.ints .u64 4 t.x.2.2.1), (.rints .u8 t.x.2.2.2.1), (.robjs 77 8 t.x.w.1)])]))), (some (.mp t.x.w.2.1)), (some (.mp t.x.w.2.2))])
def Fax.l8_0.res : Ty15 → Ex × St
 | u => ((.exit 2), (St.mk [(.int .i64 u.1), (.int .i64 u.2.1), (.robjs 72 27 u.2.2.1), (.ptr 0 [])] [(some (.var (.agg [(.own 1 0), (.own 2 0), (.raw (.map none)), (.raw (.map none)), (.raw (.map none)), (.raw (.map none)), (.int .i64 u.2.2.2.1), .snil, .snil, .snil, (.int .i64 u.w.1)]))), (some (.mp u.w.2.1)), (some (.mp u.w.2.2))]))
def Fax.l8_0.resK {R : Type} (u : Ty15) (K : Ex → St → Option R) : Option R := K (Fax.l8_0.res u).1 (Fax.l8_0.res u).2
def Fax.l3_0.r {α : Type} (mk0 : Int → Int → LA → LA → α) (n : Nat) (rc : Int → Int → LA → Int → Int → LA → LA → Option α)  (x0 : Int) (x1 : Int) (x2 : LA) (x3 : Int) (x4 : Int) (x5 : LA) (x6 : LA) : Option α :=
  if (decide (x0 < x1)) = true then
   if 0 ≤ x0 then
    if x0 < (((List.length x2) : Nat) : Int) then
     bindO (tkAgg 2 (List.getD x2 (Int.toNat x0) AV.any)) fun r10 =>
      bindO (tkInts .u8 20 (List.getD r10 0 AV.any)) fun r12 =>
       bindO (tkAgg 4 (List.getD r10 1 AV.any)) fun r14 =>
        bindO (tkInt .u64 (List.getD r14 0 AV.any)) fun r16 =>
         bindO (tkInts .u64 4 (List.getD r14 1 AV.any)) fun r18 =>
          bindO (tkRints .u8 (List.getD r14 2 AV.any)) fun r20 =>
           bindO (tkRobjs 77 8 (List.getD r14 3 AV.any)) fun r22 =>
            bindO (Fp.m n (r12, x3, x4, x5, x6)) fun r24 =>
             bindO (Go.Abs.mputL (AV.ints .u8 20 r12) (AV.agg [(AV.int .u64 r16), (AV.ints .u64 4 r18), (AV.str (Go.Abs.strOf r20))]) r24.2.2.1) fun r26 =>
              bindO (Fax.l8_0.m n n (0, (((List.length r22) : Nat) : Int), r22, x0, x1, x2, r24.1, r24.2.1, r12, r16, r18, r20, r22, r26, r24.2.2.2)) fun r28 =>
               rc (IntKind.wrap .i64 (r28.1 + 1)) r28.2.1 r28.2.2.1 r28.2.2.2.1 r28.w.1 r28.w.2.1 r28.w.2.2
    else
     none
   else
    none
  else
   some (mk0 x3 x4 x5 x6)
def Fax.l3_0.g {α : Type} (mk0 : Int → Int → LA → LA → α) (n : Nat) : Nat → Int → Int → LA → Int → Int → LA → LA → Option α
 | 0, _, _, _, _, _, _, _ => none
 | m + 1, x0, x1, x2, x3, x4, x5, x6 => Fax.l3_0.r mk0 n (fun y0 y1 y2 y3 y4 y5 y6 => Fax.l3_0.g mk0 n m y0 y1 y2 y3 y4 y5 y6)  x0 x1 x2 x3 x4 x5 x6
def Fax.l3_0.m (n m : Nat) (t : Ty15) : Option (Int × (Int × (LA × LA))) := Fax.l3_0.g (fun a0 a1 a2 a3 => (a0, a1, a2, a3)) n m t.1 t.2.1 t.2.2.1 t.2.2.2.1 t.w.1 t.w.2.1 t.w.2.2
def Fax.l3_0.pat : St → Option Ty15
 | (St.mk [(.int .i64 x0), (.int .i64 x1), (.robjs 72 27 x2), (.ptr 0 [])] [(some (.var (.agg [(.own 1 0), (.own 2 0), (.raw (.map none)), (.raw (.map none)), (.raw (.map none)), (.raw (.map none)), (.int .i64 x3), .snil, .snil, .snil, (.int .i64 x4)]))), (some (.mp x5)), (some (.mp x6))]) => some (x0, x1, x2, x3, x4, x5, x6)
 | _ => none
def Fax.l3_0.shape (t : Ty15) : St := (St.mk [(.int .i64 t.1), (.int .i64 t.2.1), (.robjs 72 27 t.2.2.1), (.ptr 0 [])] [(some (.var (.agg [(.own 1 0), (.own 2 0), (.raw (.map none)), (.raw (.map none)), (.raw (.map none)), (.raw (.map none)), (.int .i64 t.2.2.2.1), .snil, .snil, .snil, (.int .i64 t.w.1)]))), (some (.mp t.w.2.1)), (some (.mp t.w.2.2))])
def Fax.l3_0.res : (Int × (Int × (LA × LA))) → Ex × St
 | u => ((.exit 0), (St.mk [(.ptr 0 [])] [(some (.var (.agg [(.own 1 0), (.own 2 0), (.raw (.map none)), (.raw (.map none)), (.raw (.map none)), (.raw (.map none)), (.int .i64 u.1), .snil, .snil, .snil, (.int .i64 u.2.1)]))), (some (.mp u.2.2.1)), (some (.mp u.2.2.2))]))
def Fax.l3_0.resK {R : Type} (u : (Int × (Int × (LA × LA)))) (K : Ex → St → Option R) : Option R := K (Fax.l3_0.res u).1 (Fax.l3_0.res u).2
noncomputable def Fax.A (n : Nat) : Ann := ⟨Tryd.f9.ntmps, 0, Fax.live, [(12, (.objs 72 27)), (41, (.objs 77 8))], [none], fun k => match k with
 | 8 => some (.mk' Fax.l8_0.pat (Fax.l8_0.m n n) Fax.l8_0.resK)
 | 3 => some (.mk' Fax.l3_0.pat (Fax.l3_0.m n n) Fax.l3_0.resK)
 | _ => none, noNL, lookJ []⟩
noncomputable def Fax.b0 : Code := (loopsIn (Tryd.f9.body.getD .skip)).getD 0 .skip
noncomputable def Fax.b1 : Code := (loopsIn (Tryd.f9.body.getD .skip)).getD 1 .skip
def Fax.g {α : Type} (mk0 : Int → Int → LA → LA → α) (n : Nat) (a0 : LA) : Option α :=
 bindO (Fax.l3_0.m n n (0, (((List.length a0) : Nat) : Int), a0, 0, 0, [], [])) fun r2 =>
  bindO (Fy.m n (r2.1, r2.2.1, r2.2.2.1, r2.2.2.2)) fun r4 =>
   some (mk0 r4.1 r4.2.1 r4.2.2.1 r4.2.2.2)
def Fax.m (n : Nat) (t : LA) : Option (Int × (Int × (LA × LA))) := Fax.g (fun a0 a1 a2 a3 => (a0, a1, a2, a3)) n t
def Fax.pat : List AV → Blks → Option LA
 | [(.robjs 72 27 a0)], [] => some a0
 | _, _ => none
def Fax.shape (t : LA) : List AV × Blks := ([(.robjs 72 27 t)], [])
def Fax.res : (Int × (Int × (LA × LA))) → AV × Blks
 | u => ((.ptr 0 []), [(some (.var (.agg [(.own 1 0), (.own 2 0), (.rmap []), (.rmap []), (.rmap []), (.rmap []), (.int .i64 u.1), .snil, .snil, .snil, (.int .i64 u.2.1)]))), (some (.mp u.2.2.1)), (some (.mp u.2.2.2))])
def Fax.resK {R : Type} (u : (Int × (Int × (LA × LA)))) (K : AV → Blks → Option R) : Option R := K (Fax.res u).1 (Fax.res u).2
def Fax.c (n : Nat) : Abs.Callee := .mk' [] [(some (.objs 72 27))] Fax.pat (Fax.m n) Fax.resK
end
end
section
noncomputable section
noncomputable def Fan.C (n : Nat) : Ctx := ⟨Tryd.prog, kecG, lookC [], fun _ => false⟩
def Fan.live : NL := fun k => match k with
 | 3 => ([6, 0, 5, 1], [5])
 | _ => ([], [])
def Fan.l3_0.r {α : Type} (mk0 : Int → α) (n : Nat) (rc : Int → LA → Int → Int → Option α)  (x0 : Int) (x1 : LA) (x2 : Int) (x3 : Int) : Option α :=
  if (decide (x0 < (((List.length x1) : Nat) : Int))) = true then
   if (decide (x2 ≤ x3)) = true then
    if 0 ≤ x0 then
     if x0 < (((List.length x1) : Nat) : Int) then
      bindO (tkAgg 2 (List.getD x1 (Int.toNat x0) AV.any)) fun r12 =>
       bindO (tkInts .u8 20 (List.getD r12 0 AV.any)) fun r14 =>
        bindO (tkAgg 4 (List.getD r12 1 AV.any)) fun r16 =>
         bindO (tkInt .u64 (List.getD r16 0 AV.any)) fun r18 =>
          bindO (tkInts .u64 4 (List.getD r16 1 AV.any)) fun r20 =>
           bindO (tkRints .u8 (List.getD r16 2 AV.any)) fun r22 =>
            bindO (tkRobjs 77 8 (List.getD r16 3 AV.any)) fun r24 =>
             if 0 ≤ x0 then
              if x0 < (((List.length x1) : Nat) : Int) then
               bindO (tkAgg 2 (List.getD x1 (Int.toNat x0) AV.any)) fun r30 =>
                bindO (tkInts .u8 20 (List.getD r30 0 AV.any)) fun r32 =>
                 bindO (tkAgg 4 (List.getD r30 1 AV.any)) fun r34 =>
                  bindO (tkInt .u64 (List.getD r34 0 AV.any)) fun r36 =>
                   bindO (tkInts .u64 4 (List.getD r34 1 AV.any)) fun r38 =>
                    bindO (tkRints .u8 (List.getD r34 2 AV.any)) fun r40 =>
                     bindO (tkRobjs 77 8 (List.getD r34 3 AV.any)) fun r42 =>
                      rc (IntKind.wrap .i64 (x0 + 1)) x1 (IntKind.wrap .i64 (x2 + (IntKind.wrap .i64 ((IntKind.wrap .i64 (1 + (IntKind.wrap .i64 (Int.tdiv (((List.length r22) : Nat) : Int) 16)))) + (((List.length r42) : Nat) : Int))))) x3
              else
               none
             else
              none
     else
      none
    else
     none
   else
    some (mk0 x2)
  else
   some (mk0 x2)
def Fan.l3_0.g {α : Type} (mk0 : Int → α) (n : Nat) : Nat → Int → LA → Int → Int → Option α
 | 0, _, _, _, _ => none
 | m + 1, x0, x1, x2, x3 => Fan.l3_0.r mk0 n (fun y0 y1 y2 y3 => Fan.l3_0.g mk0 n m y0 y1 y2 y3)  x0 x1 x2 x3
def Fan.l3_0.m (n m : Nat) (t : (Int × (LA × (Int × Int)))) : Option Int := Fan.l3_0.g (fun a0 => a0) n m t.1 t.2.1 t.2.2.1 t.2.2.2
def Fan.l3_0.pat : St → Option (Int × (LA × (Int × Int)))
 | (St.mk [(.int .i64 x0), (.robjs 72 27 x1), (.int .i64 x2), (.int .i64 x3)] []) => some (x0, x1, x2, x3)
 | _ => none
def Fan.l3_0.shape (t : (Int × (LA × (Int × Int)))) : St := (St.mk [(.int .i64 t.1), (.robjs 72 27 t.2.1), (.int .i64 t.2.2.1), (.int .i64 t.2.2.2)] [])
def Fan.l3_0.res : Int → Ex × St
 | u => ((.exit 0), (St.mk [(.int .i64 u)] []))
def Fan.l3_0.resK {R : Type} (u : Int) (K : Ex → St → Option R) : Option R := K (Fan.l3_0.res u).1 (Fan.l3_0.res u).2
noncomputable def Fan.A (n : Nat) : Ann := ⟨Tryd.f16.ntmps, 0, Fan.live, [(0, (.objs 72 27))], [none], fun k => match k with
 | 3 => some (.mk' Fan.l3_0.pat (Fan.l3_0.m n n) Fan.l3_0.resK)
 | _ => none, noNL, lookJ []⟩
noncomputable def Fan.b0 : Code := (loopsIn (Tryd.f16.body.getD .skip)).getD 0 .skip
def Fan.g {α : Type} (mk0 : Int → α) (n : Nat) (a0 : LA) (a1 : Int) : Option α :=
 bindO (Fan.l3_0.m n n (0, a0, 0, a1)) fun r2 =>
  some (mk0 r2)
def Fan.m (n : Nat) (t : (LA × Int)) : Option Int := Fan.g (fun a0 => a0) n t.1 t.2
def Fan.pat : List AV → Blks → Option (LA × Int)
 | [(.robjs 72 27 a0), (.int .i64 a1)], [] => some (a0, a1)
 | _, _ => none
def Fan.shape (t : (LA × Int)) : List AV × Blks := ([(.robjs 72 27 t.1), (.int .i64 t.2)], [])
def Fan.res : Int → AV × Blks
 | u => ((.int .i64 u), [])
def Fan.resK {R : Type} (u : Int) (K : AV → Blks → Option R) : Option R := K (Fan.res u).1 (Fan.res u).2
def Fan.c (n : Nat) : Abs.Callee := .mk' [] [(some (.objs 72 27)), none] Fan.pat (Fan.m n) Fan.resK
end
end
section
noncomputable section
noncomputable def Fas.C (n : Nat) : Ctx := ⟨Tryd.prog, kecG, lookC [], fun _ => false⟩
def Fas.live : NL := fun k => match k with
 | 3 => ([6, 0, 5, 1], [5])
 | _ => ([], [])
def Fas.l3_0.r {α : Type} (mk0 : Int → α) (n : Nat) (rc : Int → LA → Int → Int → Option α)  (x0 : Int) (x1 : LA) (x2 : Int) (x3 : Int) : Option α :=
  if (decide (x0 < (((List.length x1) : Nat) : Int))) = true then
   if (decide (x2 ≤ x3)) = true then
    if 0 ≤ x0 then
     if x0 < (((List.length x1) : Nat) : Int) then
      bindO (tkAgg 7 (List.getD x1 (Int.toNat x0) AV.any)) fun r12 =>
       bindO (tkInt .u8 (List.getD r12 0 AV.any)) fun r14 =>
        bindO (tkInt .i64 (List.getD r12 1 AV.any)) fun r16 =>
         bindO (tkInts .u8 20 (List.getD r12 2 AV.any)) fun r18 =>
          bindO (tkInts .u64 4 (List.getD r12 3 AV.any)) fun r20 =>
           bindO (tkInts .u64 4 (List.getD r12 4 AV.any)) fun r22 =>
            bindO (tkRints .u8 (List.getD r12 5 AV.any)) fun r24 =>
             bindO (tkInt .u16 (List.getD r12 6 AV.any)) fun r26 =>
              rc (IntKind.wrap .i64 (x0 + 1)) x1 (IntKind.wrap .i64 (x2 + (IntKind.wrap .i64 (1 + (IntKind.wrap .i64 (Int.tdiv (((List.length r24) : Nat) : Int) 32)))))) x3
     else
      none
    else
     none
   else
    some (mk0 x2)
  else
   some (mk0 x2)
def Fas.l3_0.g {α : Type} (mk0 : Int → α) (n : Nat) : Nat → Int → LA → Int → Int → Option α
 | 0, _, _, _, _ => none
 | m + 1, x0, x1, x2, x3 => Fas.l3_0.r mk0 n (fun y0 y1 y2 y3 => Fas.l3_0.g mk0 n m y0 y1 y2 y3)  x0 x1 x2 x3
def Fas.l3_0.m (n m : Nat) (t : (Int × (LA × (Int × Int)))) : Option Int := Fas.l3_0.g (fun a0 => a0) n m t.1 t.2.1 t.2.2.1 t.2.2.2
def Fas.l3_0.pat : St → Option (Int × (LA × (Int × Int)))
 | (St.mk [(.int .i64 x0), (.robjs 47 32 x1), (.int .i64 x2), (.int .i64 x3)] []) => some (x0, x1, x2, x3)
 | _ => none
def Fas.l3_0.shape (t : (Int × (LA × (Int × Int)))) : St := (St.mk [(.int .i64 t.1), (.robjs 47 32 t.2.1), (.int .i64 t.2.2.1), (.int .i64 t.2.2.2)] [])
def Fas.l3_0.res : Int → Ex × St
 | u => ((.exit 0), (St.mk [(.int .i64 u)] []))
def Fas.l3_0.resK {R : Type} (u : Int) (K : Ex → St → Option R) : Option R := K (Fas.l3_0.res u).1 (Fas.l3_0.res u).2
noncomputable def Fas.A (n : Nat) : Ann := ⟨Tryd.f17.ntmps, 0, Fas.live, [(0, (.objs 47 32))], [none], fun k => match k with
 | 3 => some (.mk' Fas.l3_0.pat (Fas.l3_0.m n n) Fas.l3_0.resK)
 | _ => none, noNL, lookJ []⟩
noncomputable def Fas.b0 : Code := (loopsIn (Tryd.f17.body.getD .skip)).getD 0 .skip
def Fas.g {α : Type} (mk0 : Int → α) (n : Nat) (a0 : LA) (a1 : Int) : Option α :=
 bindO (Fas.l3_0.m n n (0, a0, 0, a1)) fun r2 =>
  some (mk0 r2)
def Fas.m (n : Nat) (t : (LA × Int)) : Option Int := Fas.g (fun a0 => a0) n t.1 t.2
def Fas.pat : List AV → Blks → Option (LA × Int)
 | [(.robjs 47 32 a0), (.int .i64 a1)], [] => some (a0, a1)
 | _, _ => none
def Fas.shape (t : (LA × Int)) : List AV × Blks := ([(.robjs 47 32 t.1), (.int .i64 t.2)], [])
def Fas.res : Int → AV × Blks
 | u => ((.int .i64 u), [])
def Fas.resK {R : Type} (u : Int) (K : AV → Blks → Option R) : Option R := K (Fas.res u).1 (Fas.res u).2
def Fas.c (n : Nat) : Abs.Callee := .mk' [] [(some (.objs 47 32)), none] Fas.pat (Fas.m n) Fas.resK
end
end
section
noncomputable section
noncomputable def Fay.C (n : Nat) : Ctx := ⟨Tryd.prog, kecG, lookC [(16, Fan.c n), (17, Fas.c n)], fun _ => false⟩
noncomputable def Fay.A (n : Nat) : Ann := ⟨Tryd.f7.ntmps, 0, noNL, [], [none], fun k => match k with
 | _ => none, noNL, lookJ []⟩
def Fay.g {α : Type} (mk0 : Bool → α) (n : Nat) (a0 : LA) (a1 : LA) : Option α :=
 bindO (Fan.m n (a0, 300)) fun r2 =>
  if (decide (r2 > 300)) = true then
   some (mk0 true)
  else
   bindO (Fas.m n (a1, 300)) fun r6 =>
    some (mk0 (decide (r6 > 300)))
def Fay.m (n : Nat) (t : (LA × LA)) : Option Bool := Fay.g (fun a0 => a0) n t.1 t.2
def Fay.pat : List AV → Blks → Option (LA × LA)
 | [(.robjs 72 27 a0), (.robjs 47 32 a1)], [] => some (a0, a1)
 | _, _ => none
def Fay.shape (t : (LA × LA)) : List AV × Blks := ([(.robjs 72 27 t.1), (.robjs 47 32 t.2)], [])
def Fay.res : Bool → AV × Blks
 | u => ((.bool u), [])
def Fay.resK {R : Type} (u : Bool) (K : AV → Blks → Option R) : Option R := K (Fay.res u).1 (Fay.res u).2
def Fay.c (n : Nat) : Abs.Callee := .mk' [] [(some (.objs 72 27)), (some (.objs 47 32))] Fay.pat (Fay.m n) Fay.resK
end
end
section
noncomputable section
noncomputable def Faz.C (n : Nat) : Ctx := ⟨Tryd.prog, kecG, lookC [(9, Fax.c n), (10, Fam.c n)], fun t => t == 3003000 || t == 3003003⟩
noncomputable def Faz.A (n : Nat) : Ann := ⟨Tryd.f8.ntmps, 0, noNL, [], [none], fun k => match k with
 | _ => none, noNL, lookJ []⟩
def Faz.g {α : Type} (mk0 : Bool → α) (n : Nat)  : Option α :=
 bindO (Fax.m n []) fun r2 =>
  bindO (Fam.m n (r2.2.2.1, r2.2.2.2, r2.1, r2.2.1, ([1, 0, 0, 0, 0, 0, 0, 0, 0, 0, 0, 0, 0, 0, 0, 0, 0, 0, 0, 0] : List Int), [0, 0, 0, 0], false, ([0, 0, 0, 0, 0, 0, 0, 0, 0, 0, 0, 0, 0, 0, 0, 0, 0, 0, 0, 0] : List Int), [], [], 0, 0, 0, [0, 0, 0, 0], [0, 0, 0, 0], false, ([0, 0, 0, 0, 0, 0, 0, 0, 0, 0, 0, 0, 0, 0, 0, 0, 0, 0, 0, 0] : List Int), 0, 0, [], [], [], [(AV.agg [(AV.int .u8 66), (AV.int .i64 0), (AV.ints .u8 20 ([1, 0, 0, 0, 0, 0, 0, 0, 0, 0, 0, 0, 0, 0, 0, 0, 0, 0, 0, 0] : List Int)), (AV.ints .u64 4 [0, 0, 0, 0]), (AV.ints .u64 4 [0, 0, 0, 0]), AV.snil, (AV.int .u16 0)])], [], [], false, false, false, false)) fun r4 =>
   bindO (Fam.m n (r2.2.2.1, r2.2.2.2, r2.1, r2.2.1, ([1, 0, 0, 0, 0, 0, 0, 0, 0, 0, 0, 0, 0, 0, 0, 0, 0, 0, 0, 0] : List Int), [0, 0, 0, 0], false, ([0, 0, 0, 0, 0, 0, 0, 0, 0, 0, 0, 0, 0, 0, 0, 0, 0, 0, 0, 0] : List Int), [], [], 0, 0, 0, [0, 0, 0, 0], [0, 0, 0, 0], false, ([0, 0, 0, 0, 0, 0, 0, 0, 0, 0, 0, 0, 0, 0, 0, 0, 0, 0, 0, 0] : List Int), 0, 0, [], [], [], [(AV.agg [(AV.int .u8 84), (AV.int .i64 0), (AV.ints .u8 20 ([2, 0, 0, 0, 0, 0, 0, 0, 0, 0, 0, 0, 0, 0, 0, 0, 0, 0, 0, 0] : List Int)), (AV.ints .u64 4 [7, 0, 0, 0]), (AV.ints .u64 4 [0, 0, 0, 0]), AV.snil, (AV.int .u16 0)])], [], [], false, false, false, false)) fun r6 =>
    bindO (Fam.m n (r2.2.2.1, r2.2.2.2, r2.1, r2.2.1, ([1, 0, 0, 0, 0, 0, 0, 0, 0, 0, 0, 0, 0, 0, 0, 0, 0, 0, 0, 0] : List Int), [0, 0, 0, 0], false, ([0, 0, 0, 0, 0, 0, 0, 0, 0, 0, 0, 0, 0, 0, 0, 0, 0, 0, 0, 0] : List Int), [], [], 0, 0, 0, [0, 0, 0, 0], [0, 0, 0, 0], false, ([0, 0, 0, 0, 0, 0, 0, 0, 0, 0, 0, 0, 0, 0, 0, 0, 0, 0, 0, 0] : List Int), 0, 0, [], [], [], [(AV.agg [(AV.int .u8 84), (AV.int .i64 0), (AV.ints .u8 20 ([1, 0, 0, 0, 0, 0, 0, 0, 0, 0, 0, 0, 0, 0, 0, 0, 0, 0, 0, 0] : List Int)), (AV.ints .u64 4 [7, 0, 0, 0]), (AV.ints .u64 4 [0, 0, 0, 0]), AV.snil, (AV.int .u16 0)])], [], [], false, false, false, false)) fun r8 =>
     if ((((List.length r4) : Nat) : Int) == 1) = true then
      if 0 < (((List.length r4) : Nat) : Int) then
       bindO (tkAgg 3 (List.getD r4 0 AV.any)) fun r14 =>
        bindO (tkInt .u8 (List.getD r14 0 AV.any)) fun r16 =>
         bindO (tkInt .u8 (List.getD r14 1 AV.any)) fun r18 =>
          bindO (tkInt .i64 (List.getD r14 2 AV.any)) fun r20 =>
           if ((r16 == 1) && ((r18 == 1) && ((r20 == 0) && true))) = true then
            if ((((List.length r6) : Nat) : Int) == 1) = true then
             if 0 < (((List.length r6) : Nat) : Int) then
              bindO (tkAgg 3 (List.getD r6 0 AV.any)) fun r28 =>
               bindO (tkInt .u8 (List.getD r28 0 AV.any)) fun r30 =>
                bindO (tkInt .u8 (List.getD r28 1 AV.any)) fun r32 =>
                 bindO (tkInt .i64 (List.getD r28 2 AV.any)) fun r34 =>
                  bindO (tkAgg 3 (List.getD r6 0 AV.any)) fun r36 =>
                   bindO (tkInt .u8 (List.getD r36 0 AV.any)) fun r38 =>
                    bindO (tkInt .u8 (List.getD r36 1 AV.any)) fun r40 =>
                     bindO (tkInt .i64 (List.getD r36 2 AV.any)) fun r42 =>
                      if (r38 == 8) = true then
                       some (mk0 ((((List.length r8) : Nat) : Int) == 0))
                      else
                       some (mk0 false)
             else
              none
            else
             some (mk0 false)
           else
            some (mk0 false)
      else
       none
     else
      some (mk0 false)
def Faz.m (n : Nat) (t : Unit) : Option Bool := Faz.g (fun a0 => a0) n 
def Faz.pat : List AV → Blks → Option Unit
 | [], [] => some ()
 | _, _ => none
def Faz.shape (t : Unit) : List AV × Blks := ([], [])
def Faz.res : Bool → AV × Blks
 | u => ((.bool u), [])
def Faz.resK {R : Type} (u : Bool) (K : AV → Blks → Option R) : Option R := K (Faz.res u).1 (Faz.res u).2
def Faz.c (n : Nat) : Abs.Callee := .mk' [] [] Faz.pat (Faz.m n) Faz.resK
end
end
section
noncomputable section
noncomputable def Fag.C (n : Nat) : Ctx := ⟨Tryd.prog, kecG, lookC [(7, Fay.c n), (8, Faz.c n), (9, Fax.c n), (10, Fam.c n)], fun t => t == 6005000 || t == 6005012 || t == 6010000 || t == 6010015 || t == 3012000 || t == 3012013 || t == 3012016⟩
def Fag.live : NL := fun k => match k with
 | 8 => ([14, 13, 0, 6, 12, 8], [0, 6, 12, 13, 8])
 | 15 => ([18, 16, 17], [10, 16, 17])
 | 19 => ([20, 17, 19, 16, 18], [19, 18, 16, 17])
 | _ => ([], [])
def Fag.l8_0.r {α : Type} (mk0 : LA → LI → LI → Bool → LI → LI → LI → Int → Int → Int → LI → LI → Bool → LI → Int → Int → LI → LI → LA → Bool → Bool → Bool → Bool → Bool → Bool → Bool → Bool → LA → LA → LA → α) (n : Nat) (rc : Int → LA → Bool → Bool → Bool → Bool → LI → LI → Bool → LI → LI → LI → Int → Int → Int → LI → LI → Bool → LI → Int → Int → LI → LI → LA → Bool → Bool → Bool → Bool → LA → LA → LA → Option α)  (x0 : Int) (x1 : LA) (x2 : Bool) (x3 : Bool) (x4 : Bool) (x5 : Bool) (x6 : LI) (x7 : LI) (x8 : Bool) (x9 : LI) (x10 : LI) (x11 : LI) (x12 : Int) (x13 : Int) (x14 : Int) (x15 : LI) (x16 : LI) (x17 : Bool) (x18 : LI) (x19 : Int) (x20 : Int) (x21 : LI) (x22 : LI) (x23 : LA) (x24 : Bool) (x25 : Bool) (x26 : Bool) (x27 : Bool) (x28 : LA) (x29 : LA) (x30 : LA) : Option α :=
  if (decide (x0 < 4)) = true then
   if x0 = 1 then
    rc 2 x1 x2 true x4 x5 x6 x7 x8 x9 x10 x11 x12 x13 x14 x15 x16 x17 x18 x19 x20 x21 x22 x23 x24 x25 x26 x27 x28 x29 x30
   else
    if x0 = 2 then
     rc 3 x1 x2 x3 true x5 x6 x7 x8 x9 x10 x11 x12 x13 x14 x15 x16 x17 x18 x19 x20 x21 x22 x23 x24 x25 x26 x27 x28 x29 x30
    else
     if x0 = 3 then
      rc 4 x1 x2 x3 x4 true x6 x7 x8 x9 x10 x11 x12 x13 x14 x15 x16 x17 x18 x19 x20 x21 x22 x23 x24 x25 x26 x27 x28 x29 x30
     else
      none
  else
   some (mk0 x1 x6 x7 x8 x9 x10 x11 x12 x13 x14 x15 x16 x17 x18 x19 x20 x21 x22 x23 x2 x3 x4 x5 x24 x25 x26 x27 x28 x29 x30)
def Fag.l8_0.g {α : Type} (mk0 : LA → LI → LI → Bool → LI → LI → LI → Int → Int → Int → LI → LI → Bool → LI → Int → Int → LI → LI → LA → Bool → Bool → Bool → Bool → Bool → Bool → Bool → Bool → LA → LA → LA → α) (n : Nat) : Nat → Int → LA → Bool → Bool → Bool → Bool → LI → LI → Bool → LI → LI → LI → Int → Int → Int → LI → LI → Bool → LI → Int → Int → LI → LI → LA → Bool → Bool → Bool → Bool → LA → LA → LA → Option α
 | 0, _, _, _, _, _, _, _, _, _, _, _, _, _, _, _, _, _, _, _, _, _, _, _, _, _, _, _, _, _, _, _ => none
 | m + 1, x0, x1, x2, x3, x4, x5, x6, x7, x8, x9, x10, x11, x12, x13, x14, x15, x16, x17, x18, x19, x20, x21, x22, x23, x24, x25, x26, x27, x28, x29, x30 => Fag.l8_0.r mk0 n (fun y0 y1 y2 y3 y4 y5 y6 y7 y8 y9 y10 y11 y12 y13 y14 y15 y16 y17 y18 y19 y20 y21 y22 y23 y24 y25 y26 y27 y28 y29 y30 => Fag.l8_0.g mk0 n m y0 y1 y2 y3 y4 y5 y6 y7 y8 y9 y10 y11 y12 y13 y14 y15 y16 y17 y18 y19 y20 y21 y22 y23 y24 y25 y26 y27 y28 y29 y30)  x0 x1 x2 x3 x4 x5 x6 x7 x8 x9 x10 x11 x12 x13 x14 x15 x16 x17 x18 x19 x20 x21 x22 x23 x24 x25 x26 x27 x28 x29 x30
def Fag.l8_0.m (n m : Nat) (t : Ty5) : Option Ty7 := Fag.l8_0.g (fun a0 a1 a2 a3 a4 a5 a6 a7 a8 a9 a10 a11 a12 a13 a14 a15 a16 a17 a18 a19 a20 a21 a22 a23 a24 a25 a26 a27 a28 a29 => (a0, a1, a2, a3, a4, a5, a6, a7, a8, a9, a10, a11, a12, a13, a14, a15, a16, a17, a18, a19, a20, a21, a22, a23, a24, a25, a26, a27, a28, a29)) n m t.1 t.2.1 t.2.2.1 t.2.2.2.1 t.w.1 t.w.2.1 t.w.2.2.1 t.w.2.2.2.1 t.x.1 t.x.2.1 t.x.2.2.1 t.x.2.2.2.1 t.x.w.1 t.x.w.2.1 t.x.w.2.2.1 t.x.w.2.2.2.1 t.y.1 t.y.2.1 t.y.2.2.1 t.y.2.2.2.1 t.y.w.1 t.y.w.2.1 t.y.w.2.2.1 t.y.w.2.2.2.1 t.y.x.1 t.y.x.2.1 t.y.x.2.2.1 t.y.x.2.2.2.1 t.y.x.w.1 t.y.x.w.2.1 t.y.x.w.2.2
def Fag.l8_0.pat : St → Option Ty5
 | (St.mk [(.int .i64 x0), (.ptr 0 []), (.robjs 72 27 x1), (.ptr 1 []), (.ptr 2 []), (.ptr 3 [])] [(some (.var (.agg [(.bool x2), (.bool x3), (.bool x4), (.bool x5)]))), (some (.var (.agg [(.ints .u8 20 x6), (.ints .u64 4 x7), (.bool x8), (.ints .u8 20 x9), (.rints .u8 x10), (.rints .u8 x11), (.int .u64 x12), (.int .u64 x13), (.int .u64 x14), (.ints .u64 4 x15), (.ints .u64 4 x16), (.bool x17), (.ints .u8 20 x18), (.int .u64 x19), (.int .u64 x20), (.rints .u8 x21), (.rints .u8 x22)]))), (some (.var (.agg [(.own 4 32), (.robjs 47 32 x23), (.own 5 32), (.own 6 32)]))), (some (.var (.agg [(.bool x24), (.bool x25), (.bool x26), (.bool x27)]))), (some (.objs 47 32 x28)), (some (.objs 47 32 x29)), (some (.objs 47 32 x30))]) => some (x0, x1, x2, x3, x4, x5, x6, x7, x8, x9, x10, x11, x12, x13, x14, x15, x16, x17, x18, x19, x20, x21, x22, x23, x24, x25, x26, x27, x28, x29, x30)
 | _ => none
def Fag.l8_0.shape (t : Ty5) : St := (St.mk [(.int .i64 t.1), (.ptr 0 []), (.robjs 72 27 t.2.1), (.ptr 1 []), (.ptr 2 []), (.ptr 3 [])] [(some (.var (.agg [(.bool t.2.2.1), (.bool t.2.2.2.1), (.bool t.w.1), (.bool t.w.2.1)]))), (some (.var (.agg [(.ints .u8 20 t.w.2.2.1), (.ints .u64 4 t.w.2.2.2.1), (.bool t.x.1), (.ints .u8 20 t.x.2.1), (.rints .u8 t.x.2.2.1), (.rints .u8 t.x.2.2.2.1), (.int .u64 t.x.w.1), (.int .u64 t.x.w.2.1), (.int .u64 t.x.w.2.2.1), (.ints .u64 4 t.x.w.2.2.2.1), (.ints .u64 4 t.y.1), (.bool t.y.2.1), (.ints .u8 20 t.y.2.2.1), (.int .u64 t.y.2.2.2.1), (.int .u64 t.y.w.1), (.rints .u8 t.y.w.2.1), (.rints .u8 t.y.w.2.2.1)]))), (some (.var (.agg [(.own 4 32), (.robjs 47 32 t.y.w.2.2.2.1), (.own 5 32), (.own 6 32)]))), (some (.var (.agg [(.bool t.y.x.1), (.bool t.y.x.2.1), (.bool t.y.x.2.2.1), (.bool t.y.x.2.2.2.1)]))), (some (.objs 47 32 t.y.x.w.1)), (some (.objs 47 32 t.y.x.w.2.1)), (some (.objs 47 32 t.y.x.w.2.2))])
def Fag.l8_0.res : Ty7 → Ex × St
 | u => ((.exit 0), (St.mk [(.robjs 72 27 u.1), (.ptr 0 []), (.ptr 1 []), (.ptr 2 []), (.ptr 3 [])] [(some (.var (.agg [(.ints .u8 20 u.2.1), (.ints .u64 4 u.2.2.1), (.bool u.2.2.2.1), (.ints .u8 20 u.w.1), (.rints .u8 u.w.2.1), (.rints .u8 u.w.2.2.1), (.int .u64 u.w.2.2.2.1), (.int .u64 u.x.1), (.int .u64 u.x.2.1), (.ints .u64 4 u.x.2.2.1), (.ints .u64 4 u.x.2.2.2.1), (.bool u.x.w.1), (.ints .u8 20 u.x.w.2.1), (.int .u64 u.x.w.2.2.1), (.int .u64 u.x.w.2.2.2.1), (.rints .u8 u.y.1), (.rints .u8 u.y.2.1)]))), (some (.var (.agg [(.own 4 32), (.robjs 47 32 u.y.2.2.1), (.own 5 32), (.own 6 32)]))), (some (.var (.agg [(.bool u.y.2.2.2.1), (.bool u.y.w.1), (.bool u.y.w.2.1), (.bool u.y.w.2.2.1)]))), (some (.var (.agg [(.bool u.y.w.2.2.2.1), (.bool u.y.x.1), (.bool u.y.x.2.1), (.bool u.y.x.2.2.1)]))), (some (.objs 47 32 u.y.x.2.2.2.1)), (some (.objs 47 32 u.y.x.w.1)), (some (.objs 47 32 u.y.x.w.2))]))
def Fag.l8_0.resK {R : Type} (u : Ty7) (K : Ex → St → Option R) : Option R := K (Fag.l8_0.res u).1 (Fag.l8_0.res u).2
def Fag.l19_0.r {α : Type} (mk0 : Bool → Int → LA → LA → α) (n : Nat) (rc : Int → Bool → Int → LA → LA → Option α)  (x0 : Int) (x1 : Bool) (x2 : Int) (x3 : LA) (x4 : LA) : Option α :=
  if (decide (x0 < (((List.length x3) : Nat) : Int))) = true then
   if x1 = true then
    rc (IntKind.wrap .i64 (x0 + 1)) true x2 x3 x4
   else
    if 0 ≤ x0 then
     if x0 < (((List.length x3) : Nat) : Int) then
      bindO (tkAgg 3 (List.getD x3 (Int.toNat x0) AV.any)) fun r12 =>
       bindO (tkInt .u8 (List.getD r12 0 AV.any)) fun r14 =>
        bindO (tkInt .u8 (List.getD r12 1 AV.any)) fun r16 =>
         bindO (tkInt .i64 (List.getD r12 2 AV.any)) fun r18 =>
          if 0 ≤ x2 then
           if x2 < (((List.length x4) : Nat) : Int) then
            bindO (tkAgg 3 (List.getD x4 (Int.toNat x2) AV.any)) fun r24 =>
             bindO (tkInt .u8 (List.getD r24 0 AV.any)) fun r26 =>
              bindO (tkInt .u8 (List.getD r24 1 AV.any)) fun r28 =>
               bindO (tkInt .i64 (List.getD r24 2 AV.any)) fun r30 =>
                rc (IntKind.wrap .i64 (x0 + 1)) ((r14 == r26) && ((r16 == r28) && ((r18 == r30) && true))) x2 x3 x4
           else
            none
          else
           none
     else
      none
    else
     none
  else
   some (mk0 x1 x2 x4 x3)
def Fag.l19_0.g {α : Type} (mk0 : Bool → Int → LA → LA → α) (n : Nat) : Nat → Int → Bool → Int → LA → LA → Option α
 | 0, _, _, _, _, _ => none
 | m + 1, x0, x1, x2, x3, x4 => Fag.l19_0.r mk0 n (fun y0 y1 y2 y3 y4 => Fag.l19_0.g mk0 n m y0 y1 y2 y3 y4)  x0 x1 x2 x3 x4
def Fag.l19_0.m (n m : Nat) (t : (Int × (Bool × (Int × (LA × LA))))) : Option (Bool × (Int × (LA × LA))) := Fag.l19_0.g (fun a0 a1 a2 a3 => (a0, a1, a2, a3)) n m t.1 t.2.1 t.2.2.1 t.2.2.2.1 t.w
def Fag.l19_0.pat : St → Option (Int × (Bool × (Int × (LA × LA))))
 | (St.mk [(.int .i64 x0), (.own 0 3), (.bool x1), (.own 1 3), (.int .i64 x2)] [(some (.objs 41 3 x3)), (some (.objs 41 3 x4))]) => some (x0, x1, x2, x3, x4)
 | _ => none
def Fag.l19_0.shape (t : (Int × (Bool × (Int × (LA × LA))))) : St := (St.mk [(.int .i64 t.1), (.own 0 3), (.bool t.2.1), (.own 1 3), (.int .i64 t.2.2.1)] [(some (.objs 41 3 t.2.2.2.1)), (some (.objs 41 3 t.w))])
def Fag.l19_0.res : (Bool × (Int × (LA × LA))) → Ex × St
 | u => ((.exit 4), (St.mk [(.bool u.1), (.int .i64 u.2.1), (.own 0 3), (.own 1 3)] [(some (.objs 41 3 u.2.2.1)), (some (.objs 41 3 u.2.2.2))]))
def Fag.l19_0.resK {R : Type} (u : (Bool × (Int × (LA × LA)))) (K : Ex → St → Option R) : Option R := K (Fag.l19_0.res u).1 (Fag.l19_0.res u).2
def Fag.l15_0.r {α : Type} (mk0 : Bool → LA → LA → α) (mk1 : LA → LA → α) (n : Nat) (rc : Int → LA → LA → Option α)  (x0 : Int) (x1 : LA) (x2 : LA) : Option α :=
  if (decide (x0 < (((List.length x1) : Nat) : Int))) = true then
   bindO (Fag.l19_0.m n n (0, false, x0, x2, x1)) fun r6 =>
    if (!r6.1) = true then
     some (mk0 false r6.2.2.1 r6.2.2.2)
    else
     rc (IntKind.wrap .i64 (r6.2.1 + 1)) r6.2.2.1 r6.2.2.2
  else
   some (mk1 x1 x2)
def Fag.l15_0.g {α : Type} (mk0 : Bool → LA → LA → α) (mk1 : LA → LA → α) (n : Nat) : Nat → Int → LA → LA → Option α
 | 0, _, _, _ => none
 | m + 1, x0, x1, x2 => Fag.l15_0.r mk0 mk1 n (fun y0 y1 y2 => Fag.l15_0.g mk0 mk1 n m y0 y1 y2)  x0 x1 x2
def Fag.l15_0.m (n m : Nat) (t : (Int × (LA × LA))) : Option ((Bool × (LA × LA)) ⊕ (LA × LA)) := Fag.l15_0.g (fun a0 a1 a2 => (.inl (a0, a1, a2))) (fun a0 a1 => (.inr (a0, a1))) n m t.1 t.2.1 t.2.2
def Fag.l15_0.pat : St → Option (Int × (LA × LA))
 | (St.mk [(.int .i64 x0), (.own 0 3), (.own 1 3)] [(some (.objs 41 3 x1)), (some (.objs 41 3 x2))]) => some (x0, x1, x2)
 | _ => none
def Fag.l15_0.shape (t : (Int × (LA × LA))) : St := (St.mk [(.int .i64 t.1), (.own 0 3), (.own 1 3)] [(some (.objs 41 3 t.2.1)), (some (.objs 41 3 t.2.2))])
def Fag.l15_0.res : ((Bool × (LA × LA)) ⊕ (LA × LA)) → Ex × St
 | (.inl u) => (.ret, (St.mk [(.bool u.1), (.own 0 3), (.own 1 3)] [(some (.objs 41 3 u.2.1)), (some (.objs 41 3 u.2.2))]))
 | (.inr u) => ((.exit 2), (St.mk [.any, (.own 0 3), (.own 1 3)] [(some (.objs 41 3 u.1)), (some (.objs 41 3 u.2))]))
def Fag.l15_0.resK {R : Type} (u : ((Bool × (LA × LA)) ⊕ (LA × LA))) (K : Ex → St → Option R) : Option R := match u with
 | (.inl u) => (fun p : Ex × St => K p.1 p.2) (.ret, (St.mk [(.bool u.1), (.own 0 3), (.own 1 3)] [(some (.objs 41 3 u.2.1)), (some (.objs 41 3 u.2.2))]))
 | (.inr u) => (fun p : Ex × St => K p.1 p.2) ((.exit 2), (St.mk [.any, (.own 0 3), (.own 1 3)] [(some (.objs 41 3 u.1)), (some (.objs 41 3 u.2))]))
def Fag.l8v1_0.r {α : Type} (mk0 : LA → LI → LI → Bool → LI → LI → LI → Int → Int → Int → LI → LI → Bool → LI → Int → Int → LI → LI → LA → Bool → Bool → Bool → Bool → Bool → Bool → Bool → Bool → LA → LA → LA → α) (n : Nat) (rc : Int → LA → Bool → Bool → Bool → Bool → LI → LI → Bool → LI → LI → LI → Int → Int → Int → LI → LI → Bool → LI → Int → Int → LI → LI → LA → Bool → Bool → Bool → Bool → LA → LA → LA → Option α)  (x0 : Int) (x1 : LA) (x2 : Bool) (x3 : Bool) (x4 : Bool) (x5 : Bool) (x6 : LI) (x7 : LI) (x8 : Bool) (x9 : LI) (x10 : LI) (x11 : LI) (x12 : Int) (x13 : Int) (x14 : Int) (x15 : LI) (x16 : LI) (x17 : Bool) (x18 : LI) (x19 : Int) (x20 : Int) (x21 : LI) (x22 : LI) (x23 : LA) (x24 : Bool) (x25 : Bool) (x26 : Bool) (x27 : Bool) (x28 : LA) (x29 : LA) (x30 : LA) : Option α :=
  if (decide (x0 < 4)) = true then
   if x0 = 1 then
    rc 2 x1 x2 true x4 x5 x6 x7 x8 x9 x10 x11 x12 x13 x14 x15 x16 x17 x18 x19 x20 x21 x22 x23 x24 x25 x26 x27 x28 x29 x30
   else
    if x0 = 2 then
     rc 3 x1 x2 x3 true x5 x6 x7 x8 x9 x10 x11 x12 x13 x14 x15 x16 x17 x18 x19 x20 x21 x22 x23 x24 x25 x26 x27 x28 x29 x30
    else
     if x0 = 3 then
      rc 4 x1 x2 x3 x4 true x6 x7 x8 x9 x10 x11 x12 x13 x14 x15 x16 x17 x18 x19 x20 x21 x22 x23 x24 x25 x26 x27 x28 x29 x30
     else
      none
  else
   some (mk0 x1 x6 x7 x8 x9 x10 x11 x12 x13 x14 x15 x16 x17 x18 x19 x20 x21 x22 x23 x2 x3 x4 x5 x24 x25 x26 x27 x28 x29 x30)
def Fag.l8v1_0.g {α : Type} (mk0 : LA → LI → LI → Bool → LI → LI → LI → Int → Int → Int → LI → LI → Bool → LI → Int → Int → LI → LI → LA → Bool → Bool → Bool → Bool → Bool → Bool → Bool → Bool → LA → LA → LA → α) (n : Nat) : Nat → Int → LA → Bool → Bool → Bool → Bool → LI → LI → Bool → LI → LI → LI → Int → Int → Int → LI → LI → Bool → LI → Int → Int → LI → LI → LA → Bool → Bool → Bool → Bool → LA → LA → LA → Option α
 | 0, _, _, _, _, _, _, _, _, _, _, _, _, _, _, _, _, _, _, _, _, _, _, _, _, _, _, _, _, _, _, _ => none
 | m + 1, x0, x1, x2, x3, x4, x5, x6, x7, x8, x9, x10, x11, x12, x13, x14, x15, x16, x17, x18, x19, x20, x21, x22, x23, x24, x25, x26, x27, x28, x29, x30 => Fag.l8v1_0.r mk0 n (fun y0 y1 y2 y3 y4 y5 y6 y7 y8 y9 y10 y11 y12 y13 y14 y15 y16 y17 y18 y19 y20 y21 y22 y23 y24 y25 y26 y27 y28 y29 y30 => Fag.l8v1_0.g mk0 n m y0 y1 y2 y3 y4 y5 y6 y7 y8 y9 y10 y11 y12 y13 y14 y15 y16 y17 y18 y19 y20 y21 y22 y23 y24 y25 y26 y27 y28 y29 y30)  x0 x1 x2 x3 x4 x5 x6 x7 x8 x9 x10 x11 x12 x13 x14 x15 x16 x17 x18 x19 x20 x21 x22 x23 x24 x25 x26 x27 x28 x29 x30
def Fag.l8v1_0.m (n m : Nat) (t : Ty5) : Option Ty7 := Fag.l8v1_0.g (fun a0 a1 a2 a3 a4 a5 a6 a7 a8 a9 a10 a11 a12 a13 a14 a15 a16 a17 a18 a19 a20 a21 a22 a23 a24 a25 a26 a27 a28 a29 => (a0, a1, a2, a3, a4, a5, a6, a7, a8, a9, a10, a11, a12, a13, a14, a15, a16, a17, a18, a19, a20, a21, a22, a23, a24, a25, a26, a27, a28, a29)) n m t.1 t.2.1 t.2.2.1 t.2.2.2.1 t.w.1 t.w.2.1 t.w.2.2.1 t.w.2.2.2.1 t.x.1 t.x.2.1 t.x.2.2.1 t.x.2.2.2.1 t.x.w.1 t.x.w.2.1 t.x.w.2.2.1 t.x.w.2.2.2.1 t.y.1 t.y.2.1 t.y.2.2.1 t.y.2.2.2.1 t.y.w.1 t.y.w.2.1 t.y.w.2.2.1 t.y.w.2.2.2.1 t.y.x.1 t.y.x.2.1 t.y.x.2.2.1 t.y.x.2.2.2.1 t.y.x.w.1 t.y.x.w.2.1 t.y.x.w.2.2
def Fag.l8v1_0.pat : St → Option Ty5
 | (St.mk [(.int .i64 x0), (.ptr 0 []), (.robjs 72 27 x1), (.ptr 1 []), (.ptr 2 []), (.ptr 3 [])] [(some (.var (.agg [(.bool x2), (.bool x3), (.bool x4), (.bool x5)]))), (some (.var (.agg [(.ints .u8 20 x6), (.ints .u64 4 x7), (.bool x8), (.ints .u8 20 x9), (.rints .u8 x10), (.rints .u8 x11), (.int .u64 x12), (.int .u64 x13), (.int .u64 x14), (.ints .u64 4 x15), (.ints .u64 4 x16), (.bool x17), (.ints .u8 20 x18), (.int .u64 x19), (.int .u64 x20), (.rints .u8 x21), (.rints .u8 x22)]))), (some (.var (.agg [(.own 4 32), (.own 5 32), (.robjs 47 32 x23), (.own 6 32)]))), (some (.var (.agg [(.bool x24), (.bool x25), (.bool x26), (.bool x27)]))), (some (.objs 47 32 x28)), (some (.objs 47 32 x29)), (some (.objs 47 32 x30))]) => some (x0, x1, x2, x3, x4, x5, x6, x7, x8, x9, x10, x11, x12, x13, x14, x15, x16, x17, x18, x19, x20, x21, x22, x23, x24, x25, x26, x27, x28, x29, x30)
 | _ => none
def Fag.l8v1_0.shape (t : Ty5) : St := (St.mk [(.int .i64 t.1), (.ptr 0 []), (.robjs 72 27 t.2.1), (.ptr 1 []), (.ptr 2 []), (.ptr 3 [])] [(some (.var (.agg [(.bool t.2.2.1), (.bool t.2.2.2.1), (.bool t.w.1), (.bool t.w.2.1)]))), (some (.var (.agg [(.ints .u8 20 t.w.2.2.1), (.ints .u64 4 t.w.2.2.2.1), (.bool t.x.1), (.ints .u8 20 t.x.2.1), (.rints .u8 t.x.2.2.1), (.rints .u8 t.x.2.2.2.1), (.int .u64 t.x.w.1), (.int .u64 t.x.w.2.1), (.int .u64 t.x.w.2.2.1), (.ints .u64 4 t.x.w.2.2.2.1), (.ints .u64 4 t.y.1), (.bool t.y.2.1), (.ints .u8 20 t.y.2.2.1), (.int .u64 t.y.2.2.2.1), (.int .u64 t.y.w.1), (.rints .u8 t.y.w.2.1), (.rints .u8 t.y.w.2.2.1)]))), (some (.var (.agg [(.own 4 32), (.own 5 32), (.robjs 47 32 t.y.w.2.2.2.1), (.own 6 32)]))), (some (.var (.agg [(.bool t.y.x.1), (.bool t.y.x.2.1), (.bool t.y.x.2.2.1), (.bool t.y.x.2.2.2.1)]))), (some (.objs 47 32 t.y.x.w.1)), (some (.objs 47 32 t.y.x.w.2.1)), (some (.objs 47 32 t.y.x.w.2.2))])
def Fag.l8v1_0.res : Ty7 → Ex × St
 | u => ((.exit 0), (St.mk [(.robjs 72 27 u.1), (.ptr 0 []), (.ptr 1 []), (.ptr 2 []), (.ptr 3 [])] [(some (.var (.agg [(.ints .u8 20 u.2.1), (.ints .u64 4 u.2.2.1), (.bool u.2.2.2.1), (.ints .u8 20 u.w.1), (.rints .u8 u.w.2.1), (.rints .u8 u.w.2.2.1), (.int .u64 u.w.2.2.2.1), (.int .u64 u.x.1), (.int .u64 u.x.2.1), (.ints .u64 4 u.x.2.2.1), (.ints .u64 4 u.x.2.2.2.1), (.bool u.x.w.1), (.ints .u8 20 u.x.w.2.1), (.int .u64 u.x.w.2.2.1), (.int .u64 u.x.w.2.2.2.1), (.rints .u8 u.y.1), (.rints .u8 u.y.2.1)]))), (some (.var (.agg [(.own 4 32), (.own 5 32), (.robjs 47 32 u.y.2.2.1), (.own 6 32)]))), (some (.var (.agg [(.bool u.y.2.2.2.1), (.bool u.y.w.1), (.bool u.y.w.2.1), (.bool u.y.w.2.2.1)]))), (some (.var (.agg [(.bool u.y.w.2.2.2.1), (.bool u.y.x.1), (.bool u.y.x.2.1), (.bool u.y.x.2.2.1)]))), (some (.objs 47 32 u.y.x.2.2.2.1)), (some (.objs 47 32 u.y.x.w.1)), (some (.objs 47 32 u.y.x.w.2))]))
def Fag.l8v1_0.resK {R : Type} (u : Ty7) (K : Ex → St → Option R) : Option R := K (Fag.l8v1_0.res u).1 (Fag.l8v1_0.res u).2
def Fag.l8v2_0.r {α : Type} (mk0 : LA → LI → LI → Bool → LI → LI → LI → Int → Int → Int → LI → LI → Bool → LI → Int → Int → LI → LI → LA → Bool → Bool → Bool → Bool → Bool → Bool → Bool → Bool → LA → LA → LA → α) (n : Nat) (rc : Int → LA → Bool → Bool → Bool → Bool → LI → LI → Bool → LI → LI → LI → Int → Int → Int → LI → LI → Bool → LI → Int → Int → LI → LI → LA → Bool → Bool → Bool → Bool → LA → LA → LA → Option α)  (x0 : Int) (x1 : LA) (x2 : Bool) (x3 : Bool) (x4 : Bool) (x5 : Bool) (x6 : LI) (x7 : LI) (x8 : Bool) (x9 : LI) (x10 : LI) (x11 : LI) (x12 : Int) (x13 : Int) (x14 : Int) (x15 : LI) (x16 : LI) (x17 : Bool) (x18 : LI) (x19 : Int) (x20 : Int) (x21 : LI) (x22 : LI) (x23 : LA) (x24 : Bool) (x25 : Bool) (x26 : Bool) (x27 : Bool) (x28 : LA) (x29 : LA) (x30 : LA) : Option α :=
  if (decide (x0 < 4)) = true then
   if x0 = 1 then
    rc 2 x1 x2 true x4 x5 x6 x7 x8 x9 x10 x11 x12 x13 x14 x15 x16 x17 x18 x19 x20 x21 x22 x23 x24 x25 x26 x27 x28 x29 x30
   else
    if x0 = 2 then
     rc 3 x1 x2 x3 true x5 x6 x7 x8 x9 x10 x11 x12 x13 x14 x15 x16 x17 x18 x19 x20 x21 x22 x23 x24 x25 x26 x27 x28 x29 x30
    else
     if x0 = 3 then
      rc 4 x1 x2 x3 x4 true x6 x7 x8 x9 x10 x11 x12 x13 x14 x15 x16 x17 x18 x19 x20 x21 x22 x23 x24 x25 x26 x27 x28 x29 x30
     else
      none
  else
   some (mk0 x1 x6 x7 x8 x9 x10 x11 x12 x13 x14 x15 x16 x17 x18 x19 x20 x21 x22 x23 x2 x3 x4 x5 x24 x25 x26 x27 x28 x29 x30)
def Fag.l8v2_0.g {α : Type} (mk0 : LA → LI → LI → Bool → LI → LI → LI → Int → Int → Int → LI → LI → Bool → LI → Int → Int → LI → LI → LA → Bool → Bool → Bool → Bool → Bool → Bool → Bool → Bool → LA → LA → LA → α) (n : Nat) : Nat → Int → LA → Bool → Bool → Bool → Bool → LI → LI → Bool → LI → LI → LI → Int → Int → Int → LI → LI → Bool → LI → Int → Int → LI → LI → LA → Bool → Bool → Bool → Bool → LA → LA → LA → Option α
 | 0, _, _, _, _, _, _, _, _, _, _, _, _, _, _, _, _, _, _, _, _, _, _, _, _, _, _, _, _, _, _, _ => none
 | m + 1, x0, x1, x2, x3, x4, x5, x6, x7, x8, x9, x10, x11, x12, x13, x14, x15, x16, x17, x18, x19, x20, x21, x22, x23, x24, x25, x26, x27, x28, x29, x30 => Fag.l8v2_0.r mk0 n (fun y0 y1 y2 y3 y4 y5 y6 y7 y8 y9 y10 y11 y12 y13 y14 y15 y16 y17 y18 y19 y20 y21 y22 y23 y24 y25 y26 y27 y28 y29 y30 => Fag.l8v2_0.g mk0 n m y0 y1 y2 y3 y4 y5 y6 y7 y8 y9 y10 y11 y12 y13 y14 y15 y16 y17 y18 y19 y20 y21 y22 y23 y24 y25 y26 y27 y28 y29 y30)  x0 x1 x2 x3 x4 x5 x6 x7 x8 x9 x10 x11 x12 x13 x14 x15 x16 x17 x18 x19 x20 x21 x22 x23 x24 x25 x26 x27 x28 x29 x30
def Fag.l8v2_0.m (n m : Nat) (t : Ty5) : Option Ty7 := Fag.l8v2_0.g (fun a0 a1 a2 a3 a4 a5 a6 a7 a8 a9 a10 a11 a12 a13 a14 a15 a16 a17 a18 a19 a20 a21 a22 a23 a24 a25 a26 a27 a28 a29 => (a0, a1, a2, a3, a4, a5, a6, a7, a8, a9, a10, a11, a12, a13, a14, a15, a16, a17, a18, a19, a20, a21, a22, a23, a24, a25, a26, a27, a28, a29)) n m t.1 t.2.1 t.2.2.1 t.2.2.2.1 t.w.1 t.w.2.1 t.w.2.2.1 t.w.2.2.2.1 t.x.1 t.x.2.1 t.x.2.2.1 t.x.2.2.2.1 t.x.w.1 t.x.w.2.1 t.x.w.2.2.1 t.x.w.2.2.2.1 t.y.1 t.y.2.1 t.y.2.2.1 t.y.2.2.2.1 t.y.w.1 t.y.w.2.1 t.y.w.2.2.1 t.y.w.2.2.2.1 t.y.x.1 t.y.x.2.1 t.y.x.2.2.1 t.y.x.2.2.2.1 t.y.x.w.1 t.y.x.w.2.1 t.y.x.w.2.2
def Fag.l8v2_0.pat : St → Option Ty5
 | (St.mk [(.int .i64 x0), (.ptr 0 []), (.robjs 72 27 x1), (.ptr 1 []), (.ptr 2 []), (.ptr 3 [])] [(some (.var (.agg [(.bool x2), (.bool x3), (.bool x4), (.bool x5)]))), (some (.var (.agg [(.ints .u8 20 x6), (.ints .u64 4 x7), (.bool x8), (.ints .u8 20 x9), (.rints .u8 x10), (.rints .u8 x11), (.int .u64 x12), (.int .u64 x13), (.int .u64 x14), (.ints .u64 4 x15), (.ints .u64 4 x16), (.bool x17), (.ints .u8 20 x18), (.int .u64 x19), (.int .u64 x20), (.rints .u8 x21), (.rints .u8 x22)]))), (some (.var (.agg [(.own 4 32), (.own 5 32), (.own 6 32), (.robjs 47 32 x23)]))), (some (.var (.agg [(.bool x24), (.bool x25), (.bool x26), (.bool x27)]))), (some (.objs 47 32 x28)), (some (.objs 47 32 x29)), (some (.objs 47 32 x30))]) => some (x0, x1, x2, x3, x4, x5, x6, x7, x8, x9, x10, x11, x12, x13, x14, x15, x16, x17, x18, x19, x20, x21, x22, x23, x24, x25, x26, x27, x28, x29, x30)
 | _ => none
def Fag.l8v2_0.shape (t : Ty5) : St := (St.mk [(.int .i64 t.1), (.ptr 0 []), (.robjs 72 27 t.2.1), (.ptr 1 []), (.ptr 2 []), (.ptr 3 [])] [(some (.var (.agg [(.bool t.2.2.1), (.bool t.2.2.2.1), (.bool t.w.1), (.bool t.w.2.1)]))), (some (.var (.agg [(.ints .u8 20 t.w.2.2.1), (.ints .u64 4 t.w.2.2.2.1), (.bool t.x.1), (.ints .u8 20 t.x.2.1), (.rints .u8 t.x.2.2.1), (.rints .u8 t.x.2.2.2.1), (.int .u64 t.x.w.1), (.int .u64 t.x.w.2.1), (.int .u64 t.x.w.2.2.1), (.ints .u64 4 t.x.w.2.2.2.1), (.ints .u64 4 t.y.1), (.bool t.y.2.1), (.ints .u8 20 t.y.2.2.1), (.int .u64 t.y.2.2.2.1), (.int .u64 t.y.w.1), (.rints .u8 t.y.w.2.1), (.rints .u8 t.y.w.2.2.1)]))), (some (.var (.agg [(.own 4 32), (.own 5 32), (.own 6 32), (.robjs 47 32 t.y.w.2.2.2.1)]))), (some (.var (.agg [(.bool t.y.x.1), (.bool t.y.x.2.1), (.bool t.y.x.2.2.1), (.bool t.y.x.2.2.2.1)]))), (some (.objs 47 32 t.y.x.w.1)), (some (.objs 47 32 t.y.x.w.2.1)), (some (.objs 47 32 t.y.x.w.2.2))])
def Fag.l8v2_0.res : Ty7 → Ex × St
 | u => ((.exit 0), (St.mk [(.robjs 72 27 u.1), (.ptr 0 []), (.ptr 1 []), (.ptr 2 []), (.ptr 3 [])] [(some (.var (.agg [(.ints .u8 20 u.2.1), (.ints .u64 4 u.2.2.1), (.bool u.2.2.2.1), (.ints .u8 20 u.w.1), (.rints .u8 u.w.2.1), (.rints .u8 u.w.2.2.1), (.int .u64 u.w.2.2.2.1), (.int .u64 u.x.1), (.int .u64 u.x.2.1), (.ints .u64 4 u.x.2.2.1), (.ints .u64 4 u.x.2.2.2.1), (.bool u.x.w.1), (.ints .u8 20 u.x.w.2.1), (.int .u64 u.x.w.2.2.1), (.int .u64 u.x.w.2.2.2.1), (.rints .u8 u.y.1), (.rints .u8 u.y.2.1)]))), (some (.var (.agg [(.own 4 32), (.own 5 32), (.own 6 32), (.robjs 47 32 u.y.2.2.1)]))), (some (.var (.agg [(.bool u.y.2.2.2.1), (.bool u.y.w.1), (.bool u.y.w.2.1), (.bool u.y.w.2.2.1)]))), (some (.var (.agg [(.bool u.y.w.2.2.2.1), (.bool u.y.x.1), (.bool u.y.x.2.1), (.bool u.y.x.2.2.1)]))), (some (.objs 47 32 u.y.x.2.2.2.1)), (some (.objs 47 32 u.y.x.w.1)), (some (.objs 47 32 u.y.x.w.2))]))
def Fag.l8v2_0.resK {R : Type} (u : Ty7) (K : Ex → St → Option R) : Option R := K (Fag.l8v2_0.res u).1 (Fag.l8v2_0.res u).2
noncomputable def Fag.A (n : Nat) : Ann := ⟨Tryd.f3.ntmps, 0, Fag.live, [(0, (.objs 72 27)), (12, (.objs 47 32)), (16, (.objs 41 3)), (17, (.objs 41 3))], [none], fun k => match k with
 | 8 => some (.alt Fag.l8_0.pat (.mk' Fag.l8_0.pat (Fag.l8_0.m n n) Fag.l8_0.resK) (.alt Fag.l8v1_0.pat (.mk' Fag.l8v1_0.pat (Fag.l8v1_0.m n n) Fag.l8v1_0.resK) (.mk' Fag.l8v2_0.pat (Fag.l8v2_0.m n n) Fag.l8v2_0.resK)))
 | 19 => some (.mk' Fag.l19_0.pat (Fag.l19_0.m n n) Fag.l19_0.resK)
 | 15 => some (.mk' Fag.l15_0.pat (Fag.l15_0.m n n) Fag.l15_0.resK)
 | _ => none, noNL, lookJ []⟩
noncomputable def Fag.b0 : Code := (loopsIn (Tryd.f3.body.getD .skip)).getD 0 .skip
noncomputable def Fag.b1 : Code := (loopsIn (Tryd.f3.body.getD .skip)).getD 1 .skip
noncomputable def Fag.b2 : Code := (loopsIn (Tryd.f3.body.getD .skip)).getD 2 .skip
def Fag.g {α : Type} (mk0 : Bool → α) (n : Nat) (a0 : LA) (a1_0 : LI) (a1_1 : LI) (a1_2 : Bool) (a1_3 : LI) (a1_4 : LI) (a1_5 : LI) (a1_6 : Int) (a1_7 : Int) (a1_8 : Int) (a1_9 : LI) (a1_10 : LI) (a1_11 : Bool) (a1_12 : LI) (a1_13 : Int) (a1_14 : Int) (a1_15 : LI) (a1_16 : LI) (a2 : LA) (a3_0 : Bool) (a3_1 : Bool) (a3_2 : Bool) (a3_3 : Bool) (a4 : Int) : Option α :=
 bindO (Fay.m n (a0, a2)) fun r2 =>
  if r2 = true then
   bindO (Faz.m n Unit.unit) fun r6 =>
    some (mk0 r6)
  else
   bindO (Faz.m n Unit.unit) fun r6 =>
    if (!r6) = true then
     bindO (Faz.m n Unit.unit) fun r10 =>
      some (mk0 r10)
    else
     if (IntKind.wrap .i64 ((Int.tmod (IntKind.wrap .i64 a4) 3) + 1)) = 1 then
      bindO (Fag.l8_0.m n n (1, a0, a3_0, a3_1, a3_2, a3_3, a1_0, a1_1, a1_2, a1_3, a1_4, a1_5, a1_6, a1_7, a1_8, a1_9, a1_10, a1_11, a1_12, a1_13, a1_14, a1_15, a1_16, a2, a3_0, a3_1, a3_2, a3_3, [], [], [])) fun r12 =>
       bindO (Fax.m n r12.1) fun r14 =>
        bindO (Fam.m n (r14.2.2.1, r14.2.2.2, r14.1, r14.2.1, r12.2.1, r12.2.2.1, r12.2.2.2.1, r12.w.1, r12.w.2.1, r12.w.2.2.1, r12.w.2.2.2.1, r12.x.1, r12.x.2.1, r12.x.2.2.1, r12.x.2.2.2.1, r12.x.w.1, r12.x.w.2.1, r12.x.w.2.2.1, r12.x.w.2.2.2.1, r12.y.1, r12.y.2.1, r12.y.x.2.2.2.1, r12.y.2.2.1, r12.y.x.w.1, r12.y.x.w.2, r12.y.2.2.2.1, r12.y.w.1, r12.y.w.2.1, r12.y.w.2.2.1)) fun r16 =>
         bindO (Fam.m n (r14.2.2.1, r14.2.2.2, r14.1, r14.2.1, r12.2.1, r12.2.2.1, r12.2.2.2.1, r12.w.1, r12.w.2.1, r12.w.2.2.1, r12.w.2.2.2.1, r12.x.1, r12.x.2.1, r12.x.2.2.1, r12.x.2.2.2.1, r12.x.w.1, r12.x.w.2.1, r12.x.w.2.2.1, r12.x.w.2.2.2.1, r12.y.1, r12.y.2.1, r12.y.x.2.2.2.1, r12.y.2.2.1, r12.y.x.w.1, r12.y.x.w.2, r12.y.w.2.2.2.1, r12.y.x.1, r12.y.x.2.1, r12.y.x.2.2.1)) fun r18 =>
          bindO (Fag.l15_0.m n n (0, r16, r18)) fun r20 => match r20 with
           | (.inl r20) =>
            some (mk0 r20.1)
           | (.inr r20) =>
            some (mk0 (decide ((((List.length r20.1) : Nat) : Int) ≤ (((List.length r20.2) : Nat) : Int))))
     else
      if (IntKind.wrap .i64 ((Int.tmod (IntKind.wrap .i64 a4) 3) + 1)) = 2 then
       bindO (Fag.l8v1_0.m n n (1, a0, a3_0, a3_1, a3_2, a3_3, a1_0, a1_1, a1_2, a1_3, a1_4, a1_5, a1_6, a1_7, a1_8, a1_9, a1_10, a1_11, a1_12, a1_13, a1_14, a1_15, a1_16, a2, a3_0, a3_1, a3_2, a3_3, [], [], [])) fun r14 =>
        bindO (Fax.m n r14.1) fun r16 =>
         bindO (Fam.m n (r16.2.2.1, r16.2.2.2, r16.1, r16.2.1, r14.2.1, r14.2.2.1, r14.2.2.2.1, r14.w.1, r14.w.2.1, r14.w.2.2.1, r14.w.2.2.2.1, r14.x.1, r14.x.2.1, r14.x.2.2.1, r14.x.2.2.2.1, r14.x.w.1, r14.x.w.2.1, r14.x.w.2.2.1, r14.x.w.2.2.2.1, r14.y.1, r14.y.2.1, r14.y.x.2.2.2.1, r14.y.x.w.1, r14.y.2.2.1, r14.y.x.w.2, r14.y.2.2.2.1, r14.y.w.1, r14.y.w.2.1, r14.y.w.2.2.1)) fun r18 =>
          bindO (Fam.m n (r16.2.2.1, r16.2.2.2, r16.1, r16.2.1, r14.2.1, r14.2.2.1, r14.2.2.2.1, r14.w.1, r14.w.2.1, r14.w.2.2.1, r14.w.2.2.2.1, r14.x.1, r14.x.2.1, r14.x.2.2.1, r14.x.2.2.2.1, r14.x.w.1, r14.x.w.2.1, r14.x.w.2.2.1, r14.x.w.2.2.2.1, r14.y.1, r14.y.2.1, r14.y.x.2.2.2.1, r14.y.x.w.1, r14.y.2.2.1, r14.y.x.w.2, r14.y.w.2.2.2.1, r14.y.x.1, r14.y.x.2.1, r14.y.x.2.2.1)) fun r20 =>
           bindO (Fag.l15_0.m n n (0, r18, r20)) fun r22 => match r22 with
            | (.inl r22) =>
             some (mk0 r22.1)
            | (.inr r22) =>
             some (mk0 (decide ((((List.length r22.1) : Nat) : Int) ≤ (((List.length r22.2) : Nat) : Int))))
      else
       if (IntKind.wrap .i64 ((Int.tmod (IntKind.wrap .i64 a4) 3) + 1)) = 3 then
        bindO (Fag.l8v2_0.m n n (1, a0, a3_0, a3_1, a3_2, a3_3, a1_0, a1_1, a1_2, a1_3, a1_4, a1_5, a1_6, a1_7, a1_8, a1_9, a1_10, a1_11, a1_12, a1_13, a1_14, a1_15, a1_16, a2, a3_0, a3_1, a3_2, a3_3, [], [], [])) fun r16 =>
         bindO (Fax.m n r16.1) fun r18 =>
          bindO (Fam.m n (r18.2.2.1, r18.2.2.2, r18.1, r18.2.1, r16.2.1, r16.2.2.1, r16.2.2.2.1, r16.w.1, r16.w.2.1, r16.w.2.2.1, r16.w.2.2.2.1, r16.x.1, r16.x.2.1, r16.x.2.2.1, r16.x.2.2.2.1, r16.x.w.1, r16.x.w.2.1, r16.x.w.2.2.1, r16.x.w.2.2.2.1, r16.y.1, r16.y.2.1, r16.y.x.2.2.2.1, r16.y.x.w.1, r16.y.x.w.2, r16.y.2.2.1, r16.y.2.2.2.1, r16.y.w.1, r16.y.w.2.1, r16.y.w.2.2.1)) fun r20 =>
           bindO (Fam.m n (r18.2.2.1, r18.2.2.2, r18.1, r18.2.1, r16.2.1, r16.2.2.1, r16.2.2.2.1, r16.w.1, r16.w.2.1, r16.w.2.2.1, r16.w.2.2.2.1, r16.x.1, r16.x.2.1, r16.x.2.2.1, r16.x.2.2.2.1, r16.x.w.1, r16.x.w.2.1, r16.x.w.2.2.1, r16.x.w.2.2.2.1, r16.y.1, r16.y.2.1, r16.y.x.2.2.2.1, r16.y.x.w.1, r16.y.x.w.2, r16.y.2.2.1, r16.y.w.2.2.2.1, r16.y.x.1, r16.y.x.2.1, r16.y.x.2.2.1)) fun r22 =>
            bindO (Fag.l15_0.m n n (0, r20, r22)) fun r24 => match r24 with
             | (.inl r24) =>
              some (mk0 r24.1)
             | (.inr r24) =>
              some (mk0 (decide ((((List.length r24.1) : Nat) : Int) ≤ (((List.length r24.2) : Nat) : Int))))
       else
        none
def Fag.m (n : Nat) (t : Ty10) : Option Bool := Fag.g (fun a0 => a0) n t.1 t.2.1 t.2.2.1 t.2.2.2.1 t.w.1 t.w.2.1 t.w.2.2.1 t.w.2.2.2.1 t.x.1 t.x.2.1 t.x.2.2.1 t.x.2.2.2.1 t.x.w.1 t.x.w.2.1 t.x.w.2.2.1 t.x.w.2.2.2.1 t.y.1 t.y.2.1 t.y.2.2.1 t.y.2.2.2.1 t.y.w.1 t.y.w.2.1 t.y.w.2.2.1 t.y.w.2.2.2
def Fag.shape (t : Ty10) : List AV × Blks := ([(.robjs 72 27 t.1), (.agg [(.ints .u8 20 t.2.1), (.ints .u64 4 t.2.2.1), (.bool t.2.2.2.1), (.ints .u8 20 t.w.1), (.rints .u8 t.w.2.1), (.rints .u8 t.w.2.2.1), (.int .u64 t.w.2.2.2.1), (.int .u64 t.x.1), (.int .u64 t.x.2.1), (.ints .u64 4 t.x.2.2.1), (.ints .u64 4 t.x.2.2.2.1), (.bool t.x.w.1), (.ints .u8 20 t.x.w.2.1), (.int .u64 t.x.w.2.2.1), (.int .u64 t.x.w.2.2.2.1), (.rints .u8 t.y.1), (.rints .u8 t.y.2.1)]), (.robjs 47 32 t.y.2.2.1), (.agg [(.bool t.y.2.2.2.1), (.bool t.y.w.1), (.bool t.y.w.2.1), (.bool t.y.w.2.2.1)]), (.int .u8 t.y.w.2.2.2)], [])
def Fag.res : Bool → AV × Blks
 | u => ((.bool u), [])
end
end
section
noncomputable abbrev Fan.R0 (n : Nat) := roundOf (Fan.C n) (Fan.A n) n Fan.b0
theorem Fan.l3_0.rmap {α β : Type} (h : β → α) (mk0 : Int → β) (n : Nat) (f : Int → LA → Int → Int → Option β)  (x0 : Int) (x1 : LA) (x2 : Int) (x3 : Int) : Fan.l3_0.r (fun a0 => (h (mk0 a0))) n (fun y0 y1 y2 y3 => (f y0 y1 y2 y3).map h) x0 x1 x2 x3 = (Fan.l3_0.r mk0 n f x0 x1 x2 x3).map h := by
  unfold Fan.l3_0.r
  exact (ite_map (ite_map (ite_map (ite_map (bindO_map fun r12 => (bindO_map fun r14 => (bindO_map fun r16 => (bindO_map fun r18 => (bindO_map fun r20 => (bindO_map fun r22 => (bindO_map fun r24 => (ite_map (ite_map (bindO_map fun r30 => (bindO_map fun r32 => (bindO_map fun r34 => (bindO_map fun r36 => (bindO_map fun r38 => (bindO_map fun r40 => (bindO_map fun r42 => rfl))))))) rfl) rfl)))))))) rfl) rfl) rfl) rfl)
theorem Fan.l3_0.gmap {α β : Type} (h : β → α) (mk0 : Int → β) (n : Nat) : ∀ (m : Nat) (x0 : Int) (x1 : LA) (x2 : Int) (x3 : Int), Fan.l3_0.g (fun a0 => (h (mk0 a0))) n m x0 x1 x2 x3 = (Fan.l3_0.g mk0 n m x0 x1 x2 x3).map h
  | 0, _, _, _, _ => rfl
  | m + 1, x0, x1, x2, x3 => by
    unfold Fan.l3_0.g
    rw [← Fan.l3_0.rmap]
    congr
    · funext y0 y1 y2 y3; exact Fan.l3_0.gmap h mk0 n m y0 y1 y2 y3
theorem Fan.l3_0.pat_shape : ∀ st t, Fan.l3_0.pat st = some t → st = Fan.l3_0.shape t := fun _ _ h => by unfold Fan.l3_0.pat at h; split at h <;> cases h; rfl
def Fan.l3_0.k0 : Int → Ex × St := (fun a0 => (((.exit 0), (St.mk [(.int .i64 a0)] [])) : Ex × St))
theorem Fan.l3_0.round (n : Nat) (rc : St → Option (Ex × St)) (x0 : Int) (x1 : LA) (x2 : Int) (x3 : Int) : Fan.R0 n rc ((St.mk [(.int .i64 x0), (.robjs 72 27 x1), (.int .i64 x2), (.int .i64 x3)] [])) = Fan.l3_0.r Fan.l3_0.k0 n (fun y0 y1 y2 y3 => rc ((St.mk [(.int .i64 y0), (.robjs 72 27 y1), (.int .i64 y2), (.int .i64 y3)] []))) x0 x1 x2 x3 := by kernel_rfl
theorem Fan.l3_0.loop' (n : Nat) : ∀ (m : Nat) (t : (Int × (LA × (Int × Int)))), loopOf (Fan.R0 n) m (Fan.l3_0.shape t) = Fan.l3_0.g Fan.l3_0.k0 n m t.1 t.2.1 t.2.2.1 t.2.2.2 :=
  loop_of_round (shape := Fan.l3_0.shape) (body := Fan.R0 n) (g := fun m t => Fan.l3_0.g Fan.l3_0.k0 n m t.1 t.2.1 t.2.2.1 t.2.2.2) (fun t => rfl)
    fun m t ih => (Fan.l3_0.round n (loopOf (Fan.R0 n) m) t.1 t.2.1 t.2.2.1 t.2.2.2).trans (congrFun (congrFun (congrFun (congrFun (congrArg (Fan.l3_0.r Fan.l3_0.k0 n) (funext fun y0 => funext fun y1 => funext fun y2 => funext fun y3 => ih (y0, y1, y2, y3))) t.1) t.2.1) t.2.2.1) t.2.2.2)
theorem Fan.l3_0.loop (n m : Nat) (t : (Int × (LA × (Int × Int)))) : loopOf (Fan.R0 n) m (Fan.l3_0.shape t) = (Fan.l3_0.m n m t).map Fan.l3_0.res :=
  (Fan.l3_0.loop' n m t).trans (Fan.l3_0.gmap Fan.l3_0.res (fun a0 => a0) n m t.1 t.2.1 t.2.2.1 t.2.2.2)
theorem Fan.gmap {α β : Type} (h : β → α) (mk0 : Int → β) (n : Nat) (a0 : LA) (a1 : Int) : Fan.g (fun a0 => (h (mk0 a0))) n a0 a1 = (Fan.g mk0 n a0 a1).map h := by
  unfold Fan.g
  exact (bindO_map fun r2 => rfl)
theorem Fan.run (n : Nat) (a0 : LA) (a1 : Int) : runF (Fan.C n) (Fan.A n) n Tryd.f16 [(.robjs 72 27 a0), (.int .i64 a1)] [] (fun v o => some (v, o)) = Fan.g (fun a0 => (((.int .i64 a0), []) : AV × Blks)) n a0 a1 := by kernel_rfl
theorem Fan.call (hmix : Tryd.prog.follows .mixedOrders = true) (n : Nat) (t : (LA × Int)) (u) (h : Fan.m n t = some u) : FnC Tryd.prog kecG 16 (Fan.shape t).1 (Fan.shape t).2 (Fan.res u).1 (Fan.res u).2 :=
  fnC1 (C := Fan.C n) (A := Fan.A n) (fn := Tryd.f16) rfl .nil hmix Tryd.func16 (by kernel_rfl) (lp := [Fan.b0]) (by kernel_rfl) (.cons (show (Fan.A n).loop (key Fan.b0) = some (.mk' Fan.l3_0.pat (Fan.l3_0.m n n) Fan.l3_0.resK) by kernel_rfl) (LoopS.of (res := Fan.l3_0.res) (fun R u K => rfl) Fan.l3_0.pat_shape fun t => Fan.l3_0.loop n n t)
  .nil)
  (nj rfl) (by decide) rfl rfl (by show 2 ≤ Tryd.f16.ntmps; decide) (Fan.run n t.1 t.2) (Fan.gmap Fan.res (fun a0 => a0) n t.1 t.2) h
theorem Fan.s (hmix : Tryd.prog.follows .mixedOrders = true) (n : Nat) : CalleeS Tryd.prog kecG 16 (Fan.c n) :=
  .mk1 (res := Fan.res) (shape := Fan.shape) (fun R u K => rfl) (fun _ _ _ h => by unfold Fan.pat at h; split at h <;> cases h; rfl) (fun t u h => Fan.call hmix n t u h) Tryd.func16 (by decide) (by kernel_rfl)
end
section
noncomputable abbrev Fas.R0 (n : Nat) := roundOf (Fas.C n) (Fas.A n) n Fas.b0
theorem Fas.l3_0.rmap {α β : Type} (h : β → α) (mk0 : Int → β) (n : Nat) (f : Int → LA → Int → Int → Option β)  (x0 : Int) (x1 : LA) (x2 : Int) (x3 : Int) : Fas.l3_0.r (fun a0 => (h (mk0 a0))) n (fun y0 y1 y2 y3 => (f y0 y1 y2 y3).map h) x0 x1 x2 x3 = (Fas.l3_0.r mk0 n f x0 x1 x2 x3).map h := by
  unfold Fas.l3_0.r
  exact (ite_map (ite_map (ite_map (ite_map (bindO_map fun r12 => (bindO_map fun r14 => (bindO_map fun r16 => (bindO_map fun r18 => (bindO_map fun r20 => (bindO_map fun r22 => (bindO_map fun r24 => (bindO_map fun r26 => rfl)))))))) rfl) rfl) rfl) rfl)
theorem Fas.l3_0.gmap {α β : Type} (h : β → α) (mk0 : Int → β) (n : Nat) : ∀ (m : Nat) (x0 : Int) (x1 : LA) (x2 : Int) (x3 : Int), Fas.l3_0.g (fun a0 => (h (mk0 a0))) n m x0 x1 x2 x3 = (Fas.l3_0.g mk0 n m x0 x1 x2 x3).map h
  | 0, _, _, _, _ => rfl
  | m + 1, x0, x1, x2, x3 => by
    unfold Fas.l3_0.g
    rw [← Fas.l3_0.rmap]
    congr
    · funext y0 y1 y2 y3; exact Fas.l3_0.gmap h mk0 n m y0 y1 y2 y3
theorem Fas.l3_0.pat_shape : ∀ st t, Fas.l3_0.pat st = some t → st = Fas.l3_0.shape t := fun _ _ h => by unfold Fas.l3_0.pat at h; split at h <;> cases h; rfl
def Fas.l3_0.k0 : Int → Ex × St := (fun a0 => (((.exit 0), (St.mk [(.int .i64 a0)] [])) : Ex × St))
theorem Fas.l3_0.round (n : Nat) (rc : St → Option (Ex × St)) (x0 : Int) (x1 : LA) (x2 : Int) (x3 : Int) : Fas.R0 n rc ((St.mk [(.int .i64 x0), (.robjs 47 32 x1), (.int .i64 x2), (.int .i64 x3)] [])) = Fas.l3_0.r Fas.l3_0.k0 n (fun y0 y1 y2 y3 => rc ((St.mk [(.int .i64 y0), (.robjs 47 32 y1), (.int .i64 y2), (.int .i64 y3)] []))) x0 x1 x2 x3 := by kernel_rfl
theorem Fas.l3_0.loop' (n : Nat) : ∀ (m : Nat) (t : (Int × (LA × (Int × Int)))), loopOf (Fas.R0 n) m (Fas.l3_0.shape t) = Fas.l3_0.g Fas.l3_0.k0 n m t.1 t.2.1 t.2.2.1 t.2.2.2 :=
  loop_of_round (shape := Fas.l3_0.shape) (body := Fas.R0 n) (g := fun m t => Fas.l3_0.g Fas.l3_0.k0 n m t.1 t.2.1 t.2.2.1 t.2.2.2) (fun t => rfl)
    fun m t ih => (Fas.l3_0.round n (loopOf (Fas.R0 n) m) t.1 t.2.1 t.2.2.1 t.2.2.2).trans (congrFun (congrFun (congrFun (congrFun (congrArg (Fas.l3_0.r Fas.l3_0.k0 n) (funext fun y0 => funext fun y1 => funext fun y2 => funext fun y3 => ih (y0, y1, y2, y3))) t.1) t.2.1) t.2.2.1) t.2.2.2)
theorem Fas.l3_0.loop (n m : Nat) (t : (Int × (LA × (Int × Int)))) : loopOf (Fas.R0 n) m (Fas.l3_0.shape t) = (Fas.l3_0.m n m t).map Fas.l3_0.res :=
  (Fas.l3_0.loop' n m t).trans (Fas.l3_0.gmap Fas.l3_0.res (fun a0 => a0) n m t.1 t.2.1 t.2.2.1 t.2.2.2)
theorem Fas.gmap {α β : Type} (h : β → α) (mk0 : Int → β) (n : Nat) (a0 : LA) (a1 : Int) : Fas.g (fun a0 => (h (mk0 a0))) n a0 a1 = (Fas.g mk0 n a0 a1).map h := by
  unfold Fas.g
  exact (bindO_map fun r2 => rfl)
theorem Fas.run (n : Nat) (a0 : LA) (a1 : Int) : runF (Fas.C n) (Fas.A n) n Tryd.f17 [(.robjs 47 32 a0), (.int .i64 a1)] [] (fun v o => some (v, o)) = Fas.g (fun a0 => (((.int .i64 a0), []) : AV × Blks)) n a0 a1 := by kernel_rfl
theorem Fas.call (hmix : Tryd.prog.follows .mixedOrders = true) (n : Nat) (t : (LA × Int)) (u) (h : Fas.m n t = some u) : FnC Tryd.prog kecG 17 (Fas.shape t).1 (Fas.shape t).2 (Fas.res u).1 (Fas.res u).2 :=
  fnC1 (C := Fas.C n) (A := Fas.A n) (fn := Tryd.f17) rfl .nil hmix Tryd.func17 (by kernel_rfl) (lp := [Fas.b0]) (by kernel_rfl) (.cons (show (Fas.A n).loop (key Fas.b0) = some (.mk' Fas.l3_0.pat (Fas.l3_0.m n n) Fas.l3_0.resK) by kernel_rfl) (LoopS.of (res := Fas.l3_0.res) (fun R u K => rfl) Fas.l3_0.pat_shape fun t => Fas.l3_0.loop n n t)
  .nil)
  (nj rfl) (by decide) rfl rfl (by show 2 ≤ Tryd.f17.ntmps; decide) (Fas.run n t.1 t.2) (Fas.gmap Fas.res (fun a0 => a0) n t.1 t.2) h
theorem Fas.s (hmix : Tryd.prog.follows .mixedOrders = true) (n : Nat) : CalleeS Tryd.prog kecG 17 (Fas.c n) :=
  .mk1 (res := Fas.res) (shape := Fas.shape) (fun R u K => rfl) (fun _ _ _ h => by unfold Fas.pat at h; split at h <;> cases h; rfl) (fun t u h => Fas.call hmix n t u h) Tryd.func17 (by decide) (by kernel_rfl)
end
section
theorem Fay.gmap {α β : Type} (h : β → α) (mk0 : Bool → β) (n : Nat) (a0 : LA) (a1 : LA) : Fay.g (fun a0 => (h (mk0 a0))) n a0 a1 = (Fay.g mk0 n a0 a1).map h := by
  unfold Fay.g
  exact (bindO_map fun r2 => (ite_map rfl (bindO_map fun r6 => rfl)))
theorem Fay.run (n : Nat) (a0 : LA) (a1 : LA) : runF (Fay.C n) (Fay.A n) n Tryd.f7 [(.robjs 72 27 a0), (.robjs 47 32 a1)] [] (fun v o => some (v, o)) = Fay.g (fun a0 => (((.bool a0), []) : AV × Blks)) n a0 a1 := by kernel_rfl
theorem Fay.call (hmix : Tryd.prog.follows .mixedOrders = true) (n : Nat) (t : (LA × LA)) (u) (h : Fay.m n t = some u) : FnC Tryd.prog kecG 7 (Fay.shape t).1 (Fay.shape t).2 (Fay.res u).1 (Fay.res u).2 :=
  fnC1 (C := Fay.C n) (A := Fay.A n) (fn := Tryd.f7) rfl (.cons (Fan.s hmix n) (.cons (Fas.s hmix n) .nil)) hmix Tryd.func7 (by kernel_rfl) (lp := []) (by kernel_rfl) .nil
  (nj rfl) (by decide) rfl rfl (by show 2 ≤ Tryd.f7.ntmps; decide) (Fay.run n t.1 t.2) (Fay.gmap Fay.res (fun a0 => a0) n t.1 t.2) h
theorem Fay.s (hmix : Tryd.prog.follows .mixedOrders = true) (n : Nat) : CalleeS Tryd.prog kecG 7 (Fay.c n) :=
  .mk1 (res := Fay.res) (shape := Fay.shape) (fun R u K => rfl) (fun _ _ _ h => by unfold Fay.pat at h; split at h <;> cases h; rfl) (fun t u h => Fay.call hmix n t u h) Tryd.func7 (by decide) (by kernel_rfl)
end
section
theorem Fg.gmap {α β : Type} (h : β → α) (mk0 : Bool → β) (n : Nat) (ad : LI) (k : LI) (v : LI) (o : LI) : Fg.g (fun a0 => (h (mk0 a0))) n ad k v o = (Fg.g mk0 n ad k v o).map h := by
  unfold Fg.g
  exact rfl
theorem Fg.run (n : Nat) (ad : LI) (k : LI) (v : LI) (o : LI) : runF (Fg.C n) (Fg.A n) n Tryd.f33 [(.agg [(.ints .u8 20 ad), (.ints .u64 4 k)]), (.ints .u64 4 v), (.rptr (.ints .u8 20 o))] [] (fun v o => some (v, o)) = Fg.g (fun a0 => (((.bool a0), []) : AV × Blks)) n ad k v o := by kernel_rfl
theorem Fg.call (hmix : Tryd.prog.follows .mixedOrders = true) (n : Nat) (t : (LI × (LI × (LI × LI)))) (u) (h : Fg.m n t = some u) : FnC Tryd.prog kecG 33 (Fg.shape t).1 (Fg.shape t).2 (Fg.res u).1 (Fg.res u).2 :=
  fnC1 (C := Fg.C n) (A := Fg.A n) (fn := Tryd.f33) rfl .nil hmix Tryd.func33 (by kernel_rfl) (lp := []) (by kernel_rfl) .nil
  (nj rfl) (by decide) rfl rfl (by show 3 ≤ Tryd.f33.ntmps; decide) (Fg.run n t.1 t.2.1 t.2.2.1 t.2.2.2) (Fg.gmap Fg.res (fun a0 => a0) n t.1 t.2.1 t.2.2.1 t.2.2.2) h
theorem Fg.s (hmix : Tryd.prog.follows .mixedOrders = true) (n : Nat) : CalleeS Tryd.prog kecG 33 (Fg.c n) :=
  .mk1 (res := Fg.res) (shape := Fg.shape) (fun R u K => rfl) (fun _ _ _ h => by unfold Fg.pat at h; split at h <;> cases h; rfl) (fun t u h => Fg.call hmix n t u h) Tryd.func33 (by decide) (by kernel_rfl)
end
section
namespace Go.Abs
open Go Go.Proofs
def cSnd : Code → Code
  | .seq _ b => b
  | c => c
def cFst : Code → Code
  | .seq a _ => a
  | c => c
def cBlk : Code → Code
  | .block _ b => b
  | c => c
def cLoop : Code → Code
  | .loop b => b
  | c => c
def cOps : Code → Array Oper
  | .region _ ops _ => ops
  | _ => #[]
noncomputable def dfBody : Code := Tryd.f32.body.getD .skip
noncomputable def dfLp : Code := cLoop (cBlk (cSnd dfBody))
noncomputable def dfO0 : Array Oper := cOps (cFst dfBody)
noncomputable def dfO1 : Array Oper := cOps (cFst dfLp)
noncomputable def dfB1 : Code := cBlk (cSnd (cSnd dfLp))
noncomputable def dfO2 : Array Oper := cOps (cFst dfB1)
noncomputable def dfRest : Code := cSnd dfB1
theorem dfShape : Tryd.f32.body = some (.seq (.region 0 dfO0 false) (.block 0 (.loop (.seq (.region 1 dfO1 false) (.seq (.cond (.tmp 9) .skip (.exit 0)) (.block 1 (.seq (.region 2 dfO2 false) dfRest))))))) := by kernel_rfl
noncomputable def dfN : Oper := dfO1.getD 0 default
noncomputable def dfE : Oper := dfO2.getD 0 default
theorem dfN_op : (dfN.op, dfN.dst, dfN.guard) = (.next (.tmp 7) false, some 8, none) := by kernel_rfl
theorem dfE_op : (dfE.op, dfE.dst, dfE.guard) = (.entry (.tmp 7), some 10, none) := by kernel_rfl
noncomputable def dfM0 : Oper := dfO0.getD 0 default
noncomputable def dfR0 : Oper := dfO0.getD 1 default
theorem dfO0_eq : dfO0.toList = [dfM0, dfR0] := by kernel_rfl
theorem dfM0_op : (dfM0.op, dfM0.dst, dfM0.guard) = (.move (.tmp 0), some 6, none) := by kernel_rfl
theorem dfR0_op : (dfR0.op, dfR0.dst, dfR0.guard) = (.range 60 (.tmp 6), some 7, none) := by kernel_rfl
theorem dfUnder : Tryd.prog.underlying 60 = some (.map 79 27) := by kernel_rfl
noncomputable def dfC (n : Nat) : Ctx := ⟨Tryd.prog, kecG, fun f => match f with
  | 33 => some (Fg.c n)
  | _ => none, fun _ => false⟩
theorem dfΓ (hmix : Tryd.prog.follows .mixedOrders = true) (n : Nat) : ∀ f m, (dfC n).Γ f = some m → CalleeS (dfC n).P (dfC n).G f m := by
  intro f m hm
  unfold dfC at hm
  simp only at hm
  split at hm
  · cases hm; exact Fg.s hmix n
  · cases hm
def dfTm (r it : Nat) (a : List Int) : List AV := [.raw (.map (some r)), .fn (.func 33) [] [.rptr (.ints .u8 20 a)], .any, .any, .any, .any, .any, .raw (.pointer (some ⟨it, 0, none⟩))] ++ List.replicate 11 .any
def dfKey (ad k : List Int) : AV := .agg [.ints .u8 20 ad, .ints .u64 4 k]
noncomputable def dfO3 : Array Oper := cOps (cFst dfRest)
def cTh : Code → Code
  | .cond _ a _ => a
  | c => c
noncomputable def dfO4 : Array Oper := cOps (cTh (cSnd dfRest))
theorem dfRest_eq : dfRest = .seq (.region 3 dfO3 false) (.cond (.tmp 16) (.region 4 dfO4 false) .skip) := by kernel_rfl
noncomputable def dfP (i : Nat) : Oper := dfO2.getD i default
noncomputable def dfQ (i : Nat) : Oper := dfO3.getD i default
noncomputable def dfS (i : Nat) : Oper := dfO4.getD i default
noncomputable def dfX : Oper := dfO1.getD 1 default
theorem dfO1_eq2 : dfO1.toList = [dfN, dfX] := by kernel_rfl
theorem dfX_op : (dfX.op, dfX.dst, dfX.guard) = (.extract (.tmp 8) 0, some 9, none) := by kernel_rfl
theorem dfO2_eq2 : dfO2.toList = [dfE, dfP 1, dfP 2, dfP 3, dfP 4, dfP 5, dfP 6] := by kernel_rfl
theorem dfO3_eq : dfO3.toList = [dfQ 0, dfQ 1, dfQ 2, dfQ 3] := by kernel_rfl
theorem dfO4_eq : dfO4.toList = [dfS 0, dfS 1, dfS 2] := by kernel_rfl
section
variable (n r it : Nat) (a ad k v : List Int)
def t10 : List AV := ((((dfTm r it a).set 8 .any).set 9 .any).set 10 (.tup [dfKey ad k, .ints .u64 4 v]))
def t11 : List AV := (t10 r it a ad k v).set 11 (dfKey ad k)
def t12 : List AV := (t11 r it a ad k v).set 12 (.ints .u64 4 v)
def t4 : List AV := (t12 r it a ad k v).set 4 (.ptr 0 [])
def t5 : List AV := (t4 r it a ad k v).set 5 (.ptr 1 [])
def t13 : List AV := (t5 r it a ad k v).set 13 (.fn (.func 33) [] [.rptr (.ints .u8 20 a)])
def t14 : List AV := (t13 r it a ad k v).set 14 (dfKey ad k)
def t15 : List AV := (t14 r it a ad k v).set 15 (.ints .u64 4 v)
def t16 : List AV := (t15 r it a ad k v).set 16 (.bool (ad == a))
def t17 : List AV := (t16 r it a ad k v).set 17 (.raw (.map (some r)))
def z20 : List Int := List.replicate 20 0
def z4 : List Int := List.replicate 4 0
def B1 : Blks := [some (.var (dfKey z20 z4))]
def B2 : Blks := [some (.var (dfKey z20 z4)), some (.var (.ints .u64 4 z4))]
def B3 : Blks := [some (.var (dfKey ad k)), some (.var (.ints .u64 4 z4))]
def B4 : Blks := [some (.var (dfKey ad k)), some (.var (.ints .u64 4 v))]
theorem s1 : opK (dfC n) (dfP 1) (get (dfC n) (t10 r it a ad k v)) [] (fun _ v bl => some (v, bl)) = some (dfKey ad k, []) := by kernel_rfl
theorem s2 : opK (dfC n) (dfP 2) (get (dfC n) (t11 r it a ad k v)) [] (fun _ v bl => some (v, bl)) = some (.ints .u64 4 v, []) := by kernel_rfl
theorem s3 : opK (dfC n) (dfP 3) (get (dfC n) (t12 r it a ad k v)) [] (fun _ v bl => some (v, bl)) = some (.ptr 0 [], B1) := by kernel_rfl
theorem s4 : opK (dfC n) (dfP 4) (get (dfC n) (t4 r it a ad k v)) B1 (fun _ v bl => some (v, bl)) = some (.ptr 1 [], B2) := by kernel_rfl
theorem s5 : opK (dfC n) (dfP 5) (get (dfC n) (t5 r it a ad k v)) B2 (fun _ v bl => some (v, bl)) = some (.any, B3 ad k) := by kernel_rfl
theorem s6 : opK (dfC n) (dfP 6) (get (dfC n) (t5 r it a ad k v)) (B3 ad k) (fun _ v bl => some (v, bl)) = some (.any, B4 ad k v) := by kernel_rfl
theorem u0 : opK (dfC n) (dfQ 0) (get (dfC n) (t5 r it a ad k v)) (B4 ad k v) (fun _ v bl => some (v, bl)) = some (.fn (.func 33) [] [.rptr (.ints .u8 20 a)], B4 ad k v) := by kernel_rfl
theorem u1 : opK (dfC n) (dfQ 1) (get (dfC n) (t13 r it a ad k v)) (B4 ad k v) (fun _ v bl => some (v, bl)) = some (dfKey ad k, B4 ad k v) := by kernel_rfl
theorem u2 : opK (dfC n) (dfQ 2) (get (dfC n) (t14 r it a ad k v)) (B4 ad k v) (fun _ v bl => some (v, bl)) = some (.ints .u64 4 v, B4 ad k v) := by kernel_rfl
theorem u3 : opK (dfC n) (dfQ 3) (get (dfC n) (t15 r it a ad k v)) (B4 ad k v) (fun _ v bl => some (v, bl)) = some (.bool (ad == a), B4 ad k v) := by kernel_rfl
theorem y0 : opK (dfC n) (dfS 0) (get (dfC n) (t16 r it a ad k v)) (B4 ad k v) (fun _ v bl => some (v, bl)) = some (.raw (.map (some r)), B4 ad k v) := by kernel_rfl
theorem y1 : opK (dfC n) (dfS 1) (get (dfC n) (t17 r it a ad k v)) (B4 ad k v) (fun _ v bl => some (v, bl)) = some (dfKey ad k, B4 ad k v) := by kernel_rfl
end
theorem dP : ((dfP 1).dst, (dfP 2).dst, (dfP 3).dst, (dfP 4).dst, (dfP 5).dst, (dfP 6).dst) = (some 11, some 12, some 4, some 5, none, none) := by kernel_rfl
theorem gP : ((dfP 1).guard, (dfP 2).guard, (dfP 3).guard, (dfP 4).guard, (dfP 5).guard, (dfP 6).guard) = (none, none, none, none, none, none) := by kernel_rfl
theorem dQ : ((dfQ 0).dst, (dfQ 1).dst, (dfQ 2).dst, (dfQ 3).dst) = (some 13, some 14, some 15, some 16) := by kernel_rfl
theorem gQ : ((dfQ 0).guard, (dfQ 1).guard, (dfQ 2).guard, (dfQ 3).guard) = (none, none, none, none) := by kernel_rfl
theorem dS : ((dfS 0).dst, (dfS 1).dst, (dfS 2).dst) = (some 17, some 18, none) := by kernel_rfl
theorem gS : ((dfS 0).guard, (dfS 1).guard, (dfS 2).guard) = (none, none, none) := by kernel_rfl
theorem dfS_op : ∃ c, (dfS 2).op = .call c ∧ c.callee = .builtin .delete ∧ c.args = #[.tmp 17, .tmp 18] ∧ c.argTypes[0]? = some 60 := ⟨match (dfS 2).op with | .call c => c | _ => default, by kernel_rfl, by kernel_rfl, by kernel_rfl, by kernel_rfl⟩
end Go.Abs
end
section
namespace Go.Abs
open Go Go.Proofs
theorem dfDec_inv {x : AV} {p : List Int × List Int} (h : dfDec x = some p) : ∃ v, x = .agg [dfKey p.1 p.2, .ints .u64 4 v] := by
  unfold dfDec at h
  split at h
  · cases h; exact ⟨_, rfl⟩
  · cases h
def dfF (a : List Int) (ps : List (MapEntry × AV)) (seen : Array Nat) : List (MapEntry × AV) := ps.filter fun p => !(dfDrop a p.2 && seen.contains p.1.born)
def dfMu (ps : List (MapEntry × AV)) (seen : Array Nat) : Nat := (ps.filter fun p => !seen.contains p.1.born).length
structure DS (E0 E : Env) (r it c0 : Nat) (ps : List (MapEntry × AV)) (seen : Array Nat) : Prop where
  gl : GoL 1 E0 E
  mem : Mem E
  bl : E.bl = [some (.mp (ps.map (·.2)))]
  loc : (E.loc 0).1 = r
  hr : E.w.heap[r]? = some (.map (ps.map (·.1)).toArray c0)
  hi : E.w.heap[it]? = some (.mapIter (some r) c0 seen c0)
structure PF (E0 : Env) (c0 : Nat) (ps : List (MapEntry × AV)) : Prop where
  ent : ∀ p ∈ ps, ∃ ad k v, dfDec p.2 = some (ad, k) ∧ p.2 = .agg [dfKey ad k, .ints .u64 4 v] ∧ VR E0 false (dfKey ad k) p.1.key ∧ VR E0 false (.ints .u64 4 v) p.1.val
  lt : ∀ p ∈ ps, p.1.born < c0
  ne : ps.Pairwise fun p q => p.1.born ≠ q.1.born
  nk : ps.Pairwise fun p q => dfDec p.2 ≠ dfDec q.2
theorem PF.sub {E0 : Env} {c0 : Nat} {ps qs : List (MapEntry × AV)} (h : PF E0 c0 ps) (s : qs.Sublist ps) : PF E0 c0 qs :=
  ⟨fun p hp => h.ent p (s.subset hp), fun p hp => h.lt p (s.subset hp), h.ne.sublist s, h.nk.sublist s⟩
theorem dfF_sub (a : List Int) (ps : List (MapEntry × AV)) (seen : Array Nat) : (dfF a ps seen).Sublist ps := List.filter_sublist
structure Kp (r it : Nat) (cv : Value) (a : Act) : Prop where
  h0 : a.tmps.getD 0 undef = .map (some r)
  h1 : a.tmps.getD 1 undef = cv
  h7 : a.tmps.getD 7 undef = .pointer (some ⟨it, 0, none⟩)
  sz : a.tmps.size = 19
  df : a.defers = []
theorem Kp.put {r it : Nat} {cv : Value} {a : Act} (h : Kp r it cv a) (d : Option Nat) (v : Value) (hd : d ≠ some 0 ∧ d ≠ some 1 ∧ d ≠ some 7) : Kp r it cv (a.put d v) := by
  refine ⟨?_, ?_, ?_, by rw [act_put_size, h.sz], by rw [act_put_defers, h.df]⟩
  · rw [act_put_get, if_neg (fun e => hd.1 e.1)]; exact h.h0
  · rw [act_put_get, if_neg (fun e => hd.2.1 e.1)]; exact h.h1
  · rw [act_put_get, if_neg (fun e => hd.2.2 e.1)]; exact h.h7
theorem put_eval {a : Act} {d : Nat} {v : Value} (h : d < a.tmps.size) : (a.put (some d) v).eval (.tmp d) = v := by
  show (a.put (some d) v).tmps.getD d undef = v
  rw [act_put_get, if_pos ⟨rfl, h⟩]
theorem opN : dfN.op = .next (.tmp 7) false ∧ dfN.dst = some 8 ∧ dfN.guard = none := by have h := dfN_op; simp only [Prod.mk.injEq] at h; exact h
theorem opX : dfX.op = .extract (.tmp 8) 0 ∧ dfX.dst = some 9 ∧ dfX.guard = none := by have h := dfX_op; simp only [Prod.mk.injEq] at h; exact h
theorem opE : dfE.op = .entry (.tmp 7) ∧ dfE.dst = some 10 ∧ dfE.guard = none := by have h := dfE_op; simp only [Prod.mk.injEq] at h; exact h
theorem dP' : (dfP 1).dst = some 11 ∧ (dfP 2).dst = some 12 ∧ (dfP 3).dst = some 4 ∧ (dfP 4).dst = some 5 ∧ (dfP 5).dst = none ∧ (dfP 6).dst = none := by have h := dP; simp only [Prod.mk.injEq] at h; exact h
theorem gP' : (dfP 1).guard = none ∧ (dfP 2).guard = none ∧ (dfP 3).guard = none ∧ (dfP 4).guard = none ∧ (dfP 5).guard = none ∧ (dfP 6).guard = none := by have h := gP; simp only [Prod.mk.injEq] at h; exact h
theorem dQ' : (dfQ 0).dst = some 13 ∧ (dfQ 1).dst = some 14 ∧ (dfQ 2).dst = some 15 ∧ (dfQ 3).dst = some 16 := by have h := dQ; simp only [Prod.mk.injEq] at h; exact h
theorem gQ' : (dfQ 0).guard = none ∧ (dfQ 1).guard = none ∧ (dfQ 2).guard = none ∧ (dfQ 3).guard = none := by have h := gQ; simp only [Prod.mk.injEq] at h; exact h
theorem dS' : (dfS 0).dst = some 17 ∧ (dfS 1).dst = some 18 ∧ (dfS 2).dst = none := by have h := dS; simp only [Prod.mk.injEq] at h; exact h
theorem gS' : (dfS 0).guard = none ∧ (dfS 1).guard = none ∧ (dfS 2).guard = none := by have h := gS; simp only [Prod.mk.injEq] at h; exact h
theorem t10_any (r it : Nat) (a ad k v : List Int) : ∀ t, t ≠ 0 → t ≠ 1 → t ≠ 7 → t ≠ 10 → (t10 r it a ad k v).getD t .any = .any
  | 0, h0, h1, h7, h10 => absurd rfl h0
  | 1, h0, h1, h7, h10 => absurd rfl h1
  | 2, h0, h1, h7, h10 => rfl
  | 3, h0, h1, h7, h10 => rfl
  | 4, h0, h1, h7, h10 => rfl
  | 5, h0, h1, h7, h10 => rfl
  | 6, h0, h1, h7, h10 => rfl
  | 7, h0, h1, h7, h10 => absurd rfl h7
  | 8, h0, h1, h7, h10 => rfl
  | 9, h0, h1, h7, h10 => rfl
  | 10, h0, h1, h7, h10 => absurd rfl h10
  | 11, h0, h1, h7, h10 => rfl
  | 12, h0, h1, h7, h10 => rfl
  | 13, h0, h1, h7, h10 => rfl
  | 14, h0, h1, h7, h10 => rfl
  | 15, h0, h1, h7, h10 => rfl
  | 16, h0, h1, h7, h10 => rfl
  | 17, h0, h1, h7, h10 => rfl
  | 18, h0, h1, h7, h10 => rfl
  | t + 19, h0, h1, h7, h10 => rfl
theorem df_ask (hmix : Tryd.prog.follows .mixedOrders = true) (n r it : Nat) (a ad k v : List Int) (cv : Value) {F0 : Env} {act : Act} (s : SR (dfC n) F0 (t10 r it a ad k v) [] act) (hk : Kp r it cv act)
    {ops : Array Oper} {Q : Exit → Act → World → Prop}
    (hQ : ∀ (F : Env) (act' : Act), Go F0 F → Kp r it cv act' → SR (dfC n) F (t5 r it a ad k v) (B4 ad k v) act' → Q .normal act' F.w) : wpList Tryd.prog ops Q [dfP 1, dfP 2, dfP 3, dfP 4, dfP 5, dfP 6] act F0.w := by
  have hΓ := dfΓ hmix n
  refine wpList_step1 (C := dfC n) hΓ gP'.1 (s1 n r it a ad k v) s fun F1 v1 g1 s1 => ?_
  rw [dP'.1] at s1 ⊢
  have k1 := hk.put (some 11) v1 (by decide)
  refine wpList_step1 (C := dfC n) hΓ gP'.2.1 (s2 n r it a ad k v) (tm := t11 r it a ad k v) s1 fun F2 v2 g2 s2 => ?_
  rw [dP'.2.1] at s2 ⊢
  have k2 := k1.put (some 12) v2 (by decide)
  refine wpList_step1 (C := dfC n) hΓ gP'.2.2.1 (s3 n r it a ad k v) (tm := t12 r it a ad k v) s2 fun F3 v3 g3 s3 => ?_
  rw [dP'.2.2.1] at s3 ⊢
  have k3 := k2.put (some 4) v3 (by decide)
  refine wpList_step1 (C := dfC n) hΓ gP'.2.2.2.1 (s4 n r it a ad k v) (tm := t4 r it a ad k v) s3 fun F4 v4 g4 s4 => ?_
  rw [dP'.2.2.2.1] at s4 ⊢
  have k4 := k3.put (some 5) v4 (by decide)
  refine wpList_step1 (C := dfC n) hΓ gP'.2.2.2.2.1 (s5 n r it a ad k v) (tm := t5 r it a ad k v) s4 fun F5 v5 g5 s5 => ?_
  rw [dP'.2.2.2.2.1] at s5 ⊢
  have k5 := k4.put none v5 (by decide)
  refine wpList_step1 (C := dfC n) hΓ gP'.2.2.2.2.2 (s6 n r it a ad k v) (tm := t5 r it a ad k v) s5 fun F6 v6 g6 s6 => ?_
  rw [dP'.2.2.2.2.2] at s6 ⊢
  have k6 := k5.put none v6 (by decide)
  exact hQ F6 _ (((((g1.trans g2).trans g3).trans g4).trans g5).trans g6) k6 s6
set_option maxHeartbeats 4000000 in
theorem df_call (hmix : Tryd.prog.follows .mixedOrders = true) (n r it : Nat) (a ad k v : List Int) (cv : Value) {F0 : Env} {act : Act} (s : SR (dfC n) F0 (t5 r it a ad k v) (B4 ad k v) act) (hk : Kp r it cv act)
    {ops : Array Oper} {Q : Exit → Act → World → Prop}
    (hQ : ∀ (F : Env) (act' : Act), Go F0 F → Kp r it cv act' → SR (dfC n) F (t16 r it a ad k v) (B4 ad k v) act' → Q .normal act' F.w) : wpList Tryd.prog ops Q [dfQ 0, dfQ 1, dfQ 2, dfQ 3] act F0.w := by
  have hΓ := dfΓ hmix n
  refine wpList_step1 (C := dfC n) hΓ gQ'.1 (u0 n r it a ad k v) s fun F1 v1 g1 s1 => ?_
  rw [dQ'.1] at s1 ⊢
  have k1 := hk.put (some 13) v1 (by decide)
  refine wpList_step1 (C := dfC n) hΓ gQ'.2.1 (u1 n r it a ad k v) (tm := t13 r it a ad k v) s1 fun F2 v2 g2 s2 => ?_
  rw [dQ'.2.1] at s2 ⊢
  have k2 := k1.put (some 14) v2 (by decide)
  refine wpList_step1 (C := dfC n) hΓ gQ'.2.2.1 (u2 n r it a ad k v) (tm := t14 r it a ad k v) s2 fun F3 v3 g3 s3 => ?_
  rw [dQ'.2.2.1] at s3 ⊢
  have k3 := k2.put (some 15) v3 (by decide)
  refine wpList_step1 (C := dfC n) hΓ gQ'.2.2.2 (u3 n r it a ad k v) (tm := t15 r it a ad k v) s3 fun F4 v4 g4 s4 => ?_
  rw [dQ'.2.2.2] at s4 ⊢
  have k4 := k3.put (some 16) v4 (by decide)
  exact hQ F4 _ (((g1.trans g2).trans g3).trans g4) k4 s4
set_option maxHeartbeats 4000000 in
theorem df_strike (hmix : Tryd.prog.follows .mixedOrders = true) (n r it : Nat) (a ad k v : List Int) (cv : Value) {F0 : Env} {act : Act} (s : SR (dfC n) F0 (t16 r it a ad k v) (B4 ad k v) act) (hk : Kp r it cv act)
    {ops : Array Oper} {Q : Exit → Act → World → Prop} {rest : List Oper}
    (hQ : ∀ (F : Env) (act' : Act), Go F0 F → Kp r it cv act' → act'.eval (.tmp 17) = .map (some r) → VR F true (dfKey ad k) (act'.eval (.tmp 18)) → wpList Tryd.prog ops Q rest act' F.w) : wpList Tryd.prog ops Q (dfS 0 :: dfS 1 :: rest) act F0.w := by
  have hΓ := dfΓ hmix n
  refine wpList_step1 (C := dfC n) hΓ gS'.1 (y0 n r it a ad k v) s fun F1 v1 g1 s1 => ?_
  rw [dS'.1] at s1 ⊢
  have k1 := hk.put (some 17) v1 (by decide)
  refine wpList_step1 (C := dfC n) hΓ gS'.2.1 (y1 n r it a ad k v) (tm := t17 r it a ad k v) s1 fun F2 v2 g2 s2 => ?_
  rw [dS'.2.1] at s2 ⊢
  have k2 := k1.put (some 18) v2 (by decide)
  refine hQ F2 _ (g1.trans g2) k2 ?_ (s2.vr 18)
  exact (s2.vr 17).raw_inv
end Go.Abs
end
section
namespace Go.Abs
open Go Go.Proofs
theorem bare_mem {E : Env} (m : Mem E) : Mem { E with bl := [] } :=
  ⟨fun id blk h => by simp [bget] at h, fun i j bi bj _ h => by simp [bget] at h, m.roe, fun b o ⟨id, blk, h, _⟩ => by simp [bget] at h⟩
theorem bare_below {E F : Env} (g : Go { E with bl := [] } F) : RowKit.Below E.w.heap.size E.w F.w :=
  ⟨g.fr.os, g.fr.tape, g.fr.output, g.fr.size, fun b hb => g.fr.blk b hb fun o ⟨id, blk, h, _⟩ => by simp [bget] at h⟩
theorem setIter {W : World} {it : Nat} {o : Obj} {w1 w : World} (hw : w1 = w ∨ w1 = w.drew) (h : W = ChangeMaps.setBlock w1 it o) : W.heap = w.heap.setIfInBounds it o ∧ W.os = w.os ∧ W.tape = w.tape ∧ W.output = w.output := by
  subst h
  rcases hw with rfl | rfl <;> exact ⟨rfl, rfl, rfl, rfl⟩
theorem mu_lt {ps : List (MapEntry × AV)} {seen : Array Nat} {p : MapEntry × AV} (hp : p ∈ ps) (hs : seen.contains p.1.born = false) : dfMu ps (seen.push p.1.born) < dfMu ps seen := by
  unfold dfMu
  refine filter_lt _ _ (fun x hx => ?_) p (by simp only [hs]; rfl) ?_ ps hp
  · rw [contains_push] at hx
    simp only [Bool.not_eq_true', Bool.or_eq_false_iff] at hx
    simp only [hx.1]; rfl
  · rw [contains_push]; simp only [beq_self_eq_true, Bool.or_true]; rfl
theorem born_uniq {ps : List (MapEntry × AV)} (h : ps.Pairwise fun p q => p.1.born ≠ q.1.born) {p q : MapEntry × AV} (hp : p ∈ ps) (hq : q ∈ ps) (e : p.1.born = q.1.born) : p = q := by
  obtain ⟨i, hi, rfl⟩ := List.getElem_of_mem hp
  obtain ⟨j, hj, rfl⟩ := List.getElem_of_mem hq
  rw [List.pairwise_iff_getElem] at h
  rcases Nat.lt_trichotomy i j with h1 | h1 | h1
  · exact absurd e (h i j hi hj h1)
  · subst h1; rfl
  · exact absurd e.symm (h j i hj hi h1)
noncomputable def dfBd : Code := .seq (.region 1 dfO1 false) (.seq (.cond (.tmp 9) .skip (.exit 0)) (.block 1 (.seq (.region 2 dfO2 false) dfRest)))
theorem run_extract0 {P : Program} {w : World} {vs : Array Value} {v : Value} (h : vs[0]? = some v) : (Instr.extract (.tuple vs) 0).run P w = .ok v w := by
  simp [Instr.extract, h]
theorem df_rounds (hmix : Tryd.prog.follows .mixedOrders = true) (n : Nat) {E0 : Env} {r it c0 : Nat} {a : List Int} {cv : Value} {ps0 : List (MapEntry × AV)} (m0 : Mem E0) (g0 : Glob kecG E0) (hge : E0.w.heap.size ≤ it)
    (hcv : VR E0 true (.fn (.func 33) [] [.rptr (.ints .u8 20 a)]) cv) (H : PF E0 c0 ps0) {Q : Exit → Act → World → Prop}
    (hQ : ∀ (E : Env) (act : Act), GoL 1 E0 E → Mem E → E.bl = [some (.mp ((ps0.filter fun p => !dfDrop a p.2).map (·.2)))] → Kp r it cv act → Q (.exit 0) act E.w) :
    ∀ (k : Nat) (seen : Array Nat) (E : Env) (act : Act), DS E0 E r it c0 (dfF a ps0 seen) seen → Kp r it cv act → dfMu ps0 seen < k → Code.rounds Tryd.prog dfBd Q k act E.w := by
  intro k
  induction k with
  | zero => intro seen E act _ _ h; exact absurd h (Nat.not_lt_zero _)
  | succ k ih =>
  intro seen E act d hk hmu
  have hsub := dfF_sub a ps0 seen
  have HF := H.sub hsub
  generalize hps : dfF a ps0 seen = ps at d hsub HF
  rw [rounds_succ]
  unfold dfBd
  refine wp_seq (wp_region_list ?_)
  rw [dfO1_eq2]
  have e7 : act.eval (.tmp 7) = .pointer (some ⟨it, 0, none⟩) := hk.h7
  have hold : ∀ x ∈ ((ps.map (·.1)).toArray).toList, x.born < c0 := fun x hx => by
    simp at hx
    obtain ⟨y, hx⟩ := hx
    exact HF.lt _ hx
  rcases run_next_at (P := Tryd.prog) E.w dfN.type it r c0 c0 seen (ps.map (·.1)).toArray c0 d.hi d.hr hold (Nat.le_refl _) with ⟨h0, hrun⟩ | ⟨e, he, w1, hw1, hrun⟩
  · -- nothing is left
    refine wpList_first opN.2.2 (v := .tuple #[.bool false]) (W' := E.w) (by simp only [execOp, opN.1, e7, Sem.run_bind, hrun, Result.andThen_ok, Sem.run_pure]) ?_
    rw [opN.2.1]
    have k1 := hk.put (some 8) (.tuple #[.bool false]) (by decide)
    have e8 : (act.put (some 8) (.tuple #[.bool false])).eval (.tmp 8) = .tuple #[.bool false] := put_eval (by rw [hk.sz]; decide)
    refine wpList_first opX.2.2 (v := .bool false) (W' := E.w) (by simp only [execOp, opX.1, e8, Sem.run_bind, run_extract0 (vs := #[.bool false]) (v := .bool false) rfl, Result.andThen_ok, Sem.run_pure]) ?_
    rw [opX.2.1]
    have k2 := k1.put (some 9) (.bool false) (by decide)
    have e9 : ((act.put (some 8) (.tuple #[.bool false])).put (some 9) (.bool false)).eval (.tmp 9) = .bool false := put_eval (by rw [k1.sz]; decide)
    refine wpList_nil ?_
    show Code.wp _ _ _ _ _
    refine wp_seq (wp_cond_false e9 (wp_exit ?_))
    show Q (.exit 0) _ _
    refine hQ E _ d.gl d.mem ?_ k2
    rw [d.bl, ← hps]
    congr 4
    unfold dfF
    refine List.filter_congr fun p hp => ?_
    cases hd : dfDrop a p.2 with
    | false => rfl
    | true =>
      cases hs : seen.contains p.1.born with
      | true => rfl
      | false =>
        exfalso
        have hin : p ∈ ps := by rw [← hps]; unfold dfF; exact List.mem_filter.2 ⟨hp, by simp only [hs, Bool.and_false]; rfl⟩
        have hl : p.1 ∈ (leftOf (ps.map (·.1)).toArray seen).toList := by
          unfold leftOf
          simp only [Array.toList_filter, List.mem_filter]
          exact ⟨List.mem_map_of_mem hin, by simp only [hs]; rfl⟩
        have := List.length_pos_of_mem hl
        simp only [Array.length_toList] at this
        omega
  · -- an entry comes
    obtain ⟨hmem, hsn⟩ := mem_left he
    have hmem' : e ∈ ps.map (·.1) := by simpa using hmem
    obtain ⟨pe, hpe, rfl⟩ := List.mem_map.1 hmem'
    obtain ⟨ad, kk, v, hdec, hx, hkey, hval⟩ := HF.ent pe hpe
    have hpe0 : pe ∈ ps0 := hsub.subset hpe
    generalize hW1 : ChangeMaps.setBlock w1 it (.mapIter (some r) c0 (seen.push pe.1.born) c0) = W1 at hrun
    obtain ⟨q1, q2, q3, q4⟩ := setIter hw1 hW1.symm
    obtain ⟨gl1, m1, st1, ne1⟩ := iter_set d.gl d.mem hge d.hi (odd_iter _ _ _ _) (odd_iter (some r) c0 (seen.push pe.1.born) c0) q1 q2 q3 q4
    have hit : it < E.w.heap.size := (Array.getElem?_eq_some_iff.1 d.hi).1
    have hri : r ≠ it := fun e => by have := d.hr; rw [e, d.hi] at this; cases this
    have hi1 : W1.heap[it]? = some (.mapIter (some r) c0 (seen.push pe.1.born) c0) := by rw [q1, Array.getElem?_setIfInBounds, if_pos rfl, if_pos hit]
    have hr1 : W1.heap[r]? = some (.map (ps.map (·.1)).toArray c0) := (ne1 r hri).trans d.hr
    refine wpList_first opN.2.2 (v := .tuple #[.bool true, pe.1.key, pe.1.val]) (W' := W1) (by simp only [execOp, opN.1, e7, Sem.run_bind, hrun, Result.andThen_ok, Sem.run_pure]) ?_
    rw [opN.2.1]
    generalize hv8 : (.tuple #[.bool true, pe.1.key, pe.1.val] : Value) = v8
    have k1 := hk.put (some 8) v8 (by decide)
    have e8 : (act.put (some 8) v8).eval (.tmp 8) = v8 := put_eval (by rw [hk.sz]; decide)
    have hx8 : (Instr.extract v8 0).run Tryd.prog W1 = .ok (.bool true) W1 := by rw [← hv8]; exact run_extract0 rfl
    refine wpList_first opX.2.2 (v := .bool true) (W' := W1) (by simp only [execOp, opX.1, e8, Sem.run_bind, hx8, Result.andThen_ok, Sem.run_pure]) ?_
    rw [opX.2.1]
    have k2 := k1.put (some 9) (.bool true) (by decide)
    have e9 : ((act.put (some 8) v8).put (some 9) (.bool true)).eval (.tmp 9) = .bool true := put_eval (by rw [k1.sz]; decide)
    refine wpList_nil ?_
    show Code.wp _ _ _ _ _
    generalize (act.put (some 8) v8).put (some 9) (.bool true) = act2 at k2 e9
    refine wp_seq (wp_cond_true e9 (wp_skip ?_))
    show Code.wp _ _ _ _ _
    refine wp_block (wp_seq (wp_region_list ?_))
    rw [dfO2_eq2]
    have hnd : (((ps.map (·.1)).toArray).toList.map (·.born)).Nodup := by
      simp only [List.map_map]
      exact List.pairwise_map.2 (HF.ne.imp fun h => h)
    have hent := run_entry_at (P := Tryd.prog) W1 it r c0 seen (ps.map (·.1)).toArray c0 pe.1 hi1 hr1 (by simpa using hmem') hnd
    have e7' : act2.eval (.tmp 7) = .pointer (some ⟨it, 0, none⟩) := k2.h7
    refine wpList_first opE.2.2 (v := .tuple #[pe.1.key, pe.1.val]) (W' := W1) (by simp only [execOp, opE.1, e7', Sem.run_bind, hent, Result.andThen_ok, Sem.run_pure]) ?_
    rw [opE.2.1]
    have k3 := k2.put (some 10) (.tuple #[pe.1.key, pe.1.val]) (by decide)
    -- without the map, from here
    have roF : ∀ b o, E0.ro b o → Env.ro { E with w := W1, bl := [] } b o ∧ Env.cell { E with w := W1, bl := [] } b o = E0.cell b o := fun b o h => gl1.ro b o h
    have mpF : MapsStay E0 { E with w := W1, bl := [] } := gl1.mp
    have gF : Glob kecG { E with w := W1, bl := [] } := g0.mono roF mpF ⟨gl1.fr.size, fun b hb hn => ⟨gl1.fr.blk b hb hn, fun o ⟨id, blk, h, _⟩ => by simp [bget] at h⟩⟩
    have s0 : SR (dfC n) { E with w := W1, bl := [] } (t10 r it a ad kk v) [] (act2.put (some 10) (.tuple #[pe.1.key, pe.1.val])) := by
      refine ⟨rfl, bare_mem m1, gF, by rw [k3.sz]; rfl, fun t => ?_, k3.df⟩
      by_cases c0' : t = 0
      · subst c0'; rw [k3.h0]; exact .raw _ _ rfl rfl
      by_cases c1 : t = 1
      · subst c1; rw [k3.h1]; exact (VR.roMono roF mpF (hcv.low rfl) rfl).lift
      by_cases c7 : t = 7
      · subst c7; rw [k3.h7]; exact .raw _ _ rfl rfl
      by_cases c10 : t = 10
      · subst c10
        rw [show (act2.put (some 10) (.tuple #[pe.1.key, pe.1.val])).tmps.getD 10 undef = .tuple #[pe.1.key, pe.1.val] from put_eval (by rw [k2.sz]; decide)]
        refine .tup _ _ _ rfl fun j x c hxj hc => ?_
        match j with
        | 0 => simp at hxj hc; subst hxj; subst hc; exact (VR.roMono roF mpF hkey rfl).lift
        | 1 => simp at hxj hc; subst hxj; subst hc; exact (VR.roMono roF mpF hval rfl).lift
        | j + 2 => simp at hxj
      rw [t10_any r it a ad kk v t c0' c1 c7 c10]
      exact .any _ _
    refine df_ask hmix n r it a ad kk v cv s0 k3 fun F1 act4 gF1 k4 s4 => ?_
    show Code.wp _ _ _ _ _
    rw [dfRest_eq]
    refine wp_seq (wp_region_list ?_)
    rw [dfO3_eq]
    refine df_call hmix n r it a ad kk v cv s4 k4 fun F2 act5 gF2 k5 s5 => ?_
    show Code.wp _ _ _ _ _
    have e16 : act5.eval (.tmp 16) = .bool (ad == a) := (s5.vr 16).bool_inv
    have hdrop : dfDrop a pe.2 = (ad == a) := by simp only [dfDrop, hdec]
    have fset : dfF a ps0 (seen.push pe.1.born) = ps.filter fun p => !(dfDrop a p.2 && p.1.born == pe.1.born) := by
      rw [← hps]
      unfold dfF
      rw [List.filter_filter]
      refine List.filter_congr fun p hp => ?_
      rw [contains_push]
      cases dfDrop a p.2 <;> cases seen.contains p.1.born <;> simp
    have hmu' : dfMu ps0 (seen.push pe.1.born) < k := by have := mu_lt hpe0 hsn; omega
    have hb0 : bget E.bl 0 = some (.mp (ps.map (·.2))) := by rw [d.bl]; rfl
    -- the map's memory, in the world behind
    have mkE : ∀ F : Env, Go { E with w := W1, bl := [] } F → GoL 1 E0 { E with w := F.w } ∧ Mem { E with w := F.w } ∧ F.w.heap[r]? = some (.map (ps.map (·.1)).toArray c0) ∧ F.w.heap[it]? = some (.mapIter (some r) c0 (seen.push pe.1.born) c0) := fun F g => by
      have hB : RowKit.Below W1.heap.size W1 F.w := bare_below (E := { E with w := W1 }) g
      have g4 : Go { E with w := W1 } { E with w := F.w } := Go.below (E := { E with w := W1 }) m1 hB
      have h1 : (1 : Nat) ≤ ({ E with w := W1 } : Env).bl.length := by show 1 ≤ E.bl.length; rw [d.bl]; exact Nat.le_refl 1
      refine ⟨gl1.trans (g4.toL h1), g4.mem, (hB.block r (Array.getElem?_eq_some_iff.1 hr1).1).trans hr1, (hB.block it (Array.getElem?_eq_some_iff.1 hi1).1).trans hi1⟩
    cases hda : (ad == a) with
    | false =>
      rw [hda] at e16 hdrop
      refine wp_cond_false e16 (wp_skip ?_)
      show Code.rounds _ _ _ _ _ _
      obtain ⟨x1, x2, x3, x4⟩ := mkE F2 (gF1.trans gF2)
      have hsame : dfF a ps0 (seen.push pe.1.born) = ps := by
        rw [fset]
        refine List.filter_eq_self.2 fun p hp => ?_
        by_cases hpb : p.1.born = pe.1.born
        · have := born_uniq HF.ne hp hpe hpb
          subst this
          simp [hdrop]
        · simp [hpb]
      refine ih (seen.push pe.1.born) { E with w := F2.w } act5 ?_ k5 hmu'
      rw [hsame]
      exact ⟨x1, x2, d.bl, d.loc, x3, x4⟩
    | true =>
      rw [hda] at e16 hdrop
      refine wp_cond_true e16 (wp_region_list ?_)
      rw [dfO4_eq]
      refine df_strike hmix n r it a ad kk v cv s5 k5 fun F3 act6 gF3 k6 e17 e18 => ?_
      obtain ⟨x1, x2, x3, x4⟩ := mkE F3 ((gF1.trans gF2).trans gF3)
      obtain ⟨c, o1, o2, o3, o4⟩ := dfS_op
      obtain ⟨i, hi⟩ := List.getElem?_of_mem hpe
      have gF3' := (gF1.trans gF2).trans gF3
      have entF : ∀ (j : Nat) e kx vx, ((ps.map (·.1)).toArray)[j]? = some e → (ps.map (·.2))[j]? = some (.agg [kx, vx]) → VR F3 false kx e.key := fun j e kx vx h1 h2 => by
        simp only [List.getElem?_toArray, List.getElem?_map] at h1 h2
        cases hp : ps[j]? with
        | none => rw [hp] at h1; cases h1
        | some p =>
          rw [hp] at h1 h2
          cases h1
          obtain ⟨ad2, k2', v2, _, hx2, hkey2, _⟩ := HF.ent p (List.mem_of_getElem? hp)
          simp only [Option.map_some, Option.some.injEq] at h2
          rw [hx2] at h2
          cases h2
          exact (VR.roMono roF mpF hkey2 rfl).mono gF3'.step
      have hfind : mfindL (dfKey ad kk) (ps.map (·.2)) = some (some i) := by
        refine mfindL_of (fun j hj => ?_) ⟨dfKey ad kk, .ints .u64 4 v, by rw [List.getElem?_map, hi, Option.map_some, hx], by simp [dfKey, eqAV, eqAVs]⟩
        have hil := (List.getElem?_eq_some_iff.1 hi).1
        have hpj : ps[j]? = some (ps[j]'(by omega)) := List.getElem?_eq_getElem (by omega)
        obtain ⟨ad2, k2', v2, hd2, hx2, _, _⟩ := HF.ent _ (List.mem_of_getElem? hpj)
        refine ⟨dfKey ad2 k2', .ints .u64 4 v2, by rw [List.getElem?_map, hpj, Option.map_some, hx2], ?_⟩
        have hne : dfDec (ps[j]'(by omega)).2 ≠ dfDec pe.2 := by
          have := List.pairwise_iff_getElem.1 HF.nk j i (by omega) hil hj
          rw [(List.getElem?_eq_some_iff.1 hi).2] at this
          exact this
        rw [hd2, hdec] at hne
        have hne' : ¬ (ad = ad2 ∧ kk = k2') := fun h => hne (by rw [h.1, h.2])
        simp only [dfKey, eqAV, eqAVs, if_true, Bool.and_true]
        congr 1
        simp only [Bool.and_eq_false_iff, beq_eq_false_iff_ne, ne_eq]
        by_cases h1 : ad = ad2
        · exact .inr fun h2 => hne' ⟨h1, h2⟩
        · exact .inl h1
      have hdel := delete_run (P := Tryd.prog) (E := F3) (ty := (dfS 2).type) dfUnder o4 (by kernel_rfl : rowTy Tryd.prog 79 = true) (by kernel_rfl) (k := dfKey ad kk) (by kernel_rfl) rfl e18 x3 (by simp) entF hfind
      have hex : execOp act6.eval (dfS 2) = (do let x ← Builtin.delete_ c.argTypes (dfS 2).type #[act6.eval (.tmp 17), act6.eval (.tmp 18)]; pure (.value x)) := by
        have h1 : execOp act6.eval (dfS 2) = builtin .delete c.argTypes (dfS 2).type (c.args.map fun | .const _ => true | _ => false) (c.args.map act6.eval) := by
          simp only [execOp, o1, resolve, o2]
          rfl
        rw [h1, o3]
        simp only [List.map_toArray, List.map_cons, List.map_nil]
        rfl
      have hes : ((ps.map (·.1)).toArray).eraseIdxIfInBounds i = ((ps.eraseIdx i).map (·.1)).toArray := by
        have hil := (List.getElem?_eq_some_iff.1 hi).1
        apply Array.ext'
        unfold Array.eraseIdxIfInBounds
        rw [dif_pos (by simpa using hil), Array.toList_eraseIdx]
        exact (ChangeMaps.map_eraseIdx _ _ _).symm
      have hps2 : dfF a ps0 (seen.push pe.1.born) = ps.eraseIdx i := by
        rw [fset, erase_filter (fun p : MapEntry × AV => p.1.born) ps i pe HF.ne hi]
        refine List.filter_congr fun p hp => ?_
        by_cases hpb : p.1.born = pe.1.born
        · have := born_uniq HF.ne hp hpe hpb
          subst this
          simp [hdrop]
        · simp [hpb]
      refine wpList_first gS'.2.2 (v := .tuple #[]) (W' := _) (by rw [hex, e17, Sem.run_bind, hdel]; rfl) ?_
      rw [dS'.2.2]
      refine wpList_nil ?_
      show Code.rounds _ _ _ _ _ _
      have lo : (({ E with w := F3.w } : Env).loc 0).1 = r := d.loc
      have hPF2 : PF E0 c0 (ps.eraseIdx i) := HF.sub (List.eraseIdx_sublist _ _)
      have gm := Go.mset (E := { E with w := F3.w }) x2 0 (ps.map (·.2)) ((ps.eraseIdx i).map (·.2)) hb0 ((ps.eraseIdx i).map (·.1)).toArray c0 (by simp)
        ⟨fun e he => by
          simp at he
          obtain ⟨y, hy⟩ := he
          exact hPF2.lt _ hy, by
          simp only [List.pairwise_map]
          exact hPF2.ne⟩
        (fun x hxm => by
          obtain ⟨p, hp, rfl⟩ := List.mem_map.1 hxm
          obtain ⟨ad2, k2', v2, _, hx2, hk2, hv2⟩ := hPF2.ent p hp
          rw [hx2]
          exact ent_of (hk2.cells ⟨by simp [dfKey], by simp [dfKey]⟩).1 rfl rfl (hv2.cells ⟨by simp, by simp⟩).1 rfl rfl)
        (fun j e kx vx h1 h2 => by
          simp only [List.getElem?_toArray, List.getElem?_map] at h1 h2
          cases hp : (ps.eraseIdx i)[j]? with
          | none => rw [hp] at h1; cases h1
          | some p =>
            rw [hp] at h1 h2
            cases h1
            obtain ⟨ad2, k2', v2, _, hx2, hkey2, hval2⟩ := hPF2.ent p (List.mem_of_getElem? hp)
            simp only [Option.map_some, Option.some.injEq] at h2
            rw [hx2] at h2
            cases h2
            exact ⟨VR.roMono x1.ro x1.mp hkey2 rfl, VR.roMono x1.ro x1.mp hval2 rfl⟩)
      have key : ({ F3.w with heap := F3.w.heap.setIfInBounds r (.map (((ps.map (·.1)).toArray).eraseIdxIfInBounds i) c0) } : World) = (Env.mset { E with w := F3.w } 0 ((ps.eraseIdx i).map (·.1)).toArray c0 ((ps.eraseIdx i).map (·.2))).w := by
        unfold Env.mset
        simp only [hes, d.loc]
      rw [key]
      refine ih (seen.push pe.1.born) _ _ ?_ (k6.put none _ (by decide)) hmu'
      rw [hps2]
      refine ⟨x1.trans (gm.toL (by show 1 ≤ E.bl.length; rw [d.bl]; exact Nat.le_refl 1)), gm.mem, by show E.bl.set 0 _ = _; rw [d.bl]; rfl, d.loc, ?_, ?_⟩
      · show (F3.w.heap.setIfInBounds (E.loc 0).1 _)[r]? = _
        rw [d.loc, Array.getElem?_setIfInBounds, if_pos rfl, if_pos (Array.getElem?_eq_some_iff.1 x3).1]
      · show (F3.w.heap.setIfInBounds (E.loc 0).1 _)[it]? = _
        rw [d.loc, Array.getElem?_setIfInBounds, if_neg hri]
        exact x4
theorem df_pf {E0 : Env} {c0 : Nat} {es : Array MapEntry} {l : List AV} (hs : es.size = l.length) (hst : Stamps es c0)
    (hat : ∀ (j : Nat) e k v, es[j]? = some e → l[j]? = some (.agg [k, v]) → VR E0 false k e.key ∧ VR E0 false v e.val) (hok : dfOk l = true) : PF E0 c0 (es.toList.zip l) := by
  simp only [dfOk, Bool.and_eq_true, List.all_eq_true, decide_eq_true_eq] at hok
  have hf : (es.toList.zip l).map (·.1) = es.toList := List.map_fst_zip (by simp; omega)
  have hsn : (es.toList.zip l).map (·.2) = l := List.map_snd_zip (by simp; omega)
  refine ⟨fun p hp => ?_, fun p hp => hst.1 _ (by rw [← hf]; exact List.mem_map_of_mem hp), ?_, ?_⟩
  · obtain ⟨i, hi⟩ := List.getElem?_of_mem hp
    rw [List.getElem?_zip_eq_some] at hi
    obtain ⟨q, hq⟩ := Option.isSome_iff_exists.1 (hok.1 p.2 (List.mem_of_getElem? hi.2))
    obtain ⟨v, hx⟩ := dfDec_inv hq
    have := hat i p.1 (dfKey q.1 q.2) (.ints .u64 4 v) (by simpa using hi.1) (by rw [hi.2, hx])
    exact ⟨q.1, q.2, v, hq, hx, this.1, this.2⟩
  · have := hst.2
    rw [← hf] at this
    exact (List.pairwise_map (f := fun p : MapEntry × AV => p.1) (R := fun a b => a.born ≠ b.born)).1 this
  · have := hok.2
    rw [← hsn, List.map_map] at this
    exact List.pairwise_map.1 this
theorem start_get (v0 v1 : Value) (act : Act) (h : act = { tmps := #[v0, v1] ++ Array.replicate (19 - (#[v0, v1] : Array Value).size) undef, defers := [] }) :
    act.tmps.getD 0 undef = v0 ∧ act.tmps.getD 1 undef = v1 ∧ act.tmps.size = 19 ∧ act.defers = [] := by
  subst h
  refine ⟨?_, ?_, by simp, rfl⟩
  · simp [Array.getD_eq_getD_getElem?, Array.getElem?_append]
  · simp [Array.getD_eq_getD_getElem?, Array.getElem?_append]
set_option maxHeartbeats 2000000 in
theorem df_fn (hmix : Tryd.prog.follows .mixedOrders = true) (a : List Int) (l : List AV) (hok : dfOk l = true) : FnC Tryd.prog kecG 32 [.own 0 0, .fn (.func 33) [] [.rptr (.ints .u8 20 a)]] [some (.mp l)] (.tup []) [some (.mp (l.filter fun x => !dfDrop a x))] := by
  intro E vs hbl m g ha
  have hsz : vs.size = 2 := ha.size
  obtain ⟨v0, v1, rfl⟩ : ∃ v0 v1, vs = #[v0, v1] := by
    match vs, hsz with
    | ⟨[x, y]⟩, _ => exact ⟨x, y, rfl⟩
  have h0 := ha.vr 0 _ v0 rfl rfl
  have hcv := ha.vr 1 _ v1 rfl rfl
  have hb0 : bget E.bl 0 = some (.mp l) := by rw [hbl]; rfl
  obtain ⟨es, c0, rfl, hh, hs, hst, hen, hat⟩ := own_map m hb0 h0
  have hf : (es.toList.zip l).map (·.1) = es.toList := List.map_fst_zip (by simp; omega)
  have hsn : (es.toList.zip l).map (·.2) = l := List.map_snd_zip (by simp; omega)
  have H := df_pf hs hst hat hok
  refine calls_of_wp Tryd.func32 dfShape ?_
  refine wp_seq (wp_region_list ?_)
  rw [dfO0_eq]
  have hM := dfM0_op
  have hR := dfR0_op
  simp only [Prod.mk.injEq] at hM hR
  generalize hact : ({ tmps := #[.map (some (E.loc 0).1), v1] ++ Array.replicate (Tryd.f32.ntmps - (#[.map (some (E.loc 0).1), v1] : Array Value).size) undef, defers := [] } : Act) = act
  have hN : Tryd.f32.ntmps = 19 := by kernel_rfl
  rw [hN] at hact
  obtain ⟨a0, a1, asz, adf⟩ := start_get (.map (some (E.loc 0).1)) v1 act hact.symm
  have a0 : act.eval (.tmp 0) = .map (some (E.loc 0).1) := a0
  refine wpList_first hM.2.2 (v := .map (some (E.loc 0).1)) (W' := E.w) (by simp only [execOp, hM.1, a0, Sem.run_pure]) ?_
  rw [hM.2.1]
  have e6 : (act.put (some 6) (.map (some (E.loc 0).1))).eval (.tmp 6) = .map (some (E.loc 0).1) := put_eval (by rw [asz]; decide)
  refine wpList_first hR.2.2 (v := .pointer (some ⟨E.w.heap.size, 0, none⟩)) (W' := E.w.alloc (.mapIter (some (E.loc 0).1) c0 #[] c0)) (by simp only [execOp, hR.1, e6, Sem.run_bind, run_range_map E.w 60 79 27 _ es c0 dfUnder hh, Result.andThen_ok, Sem.run_pure]) ?_
  rw [hR.2.1]
  refine wpList_nil ?_
  show Code.wp _ _ _ _ _
  refine wp_block (wp_loop_rounds (dfMu (es.toList.zip l) #[] + 1) ?_)
  have hB : RowKit.Below E.w.heap.size E.w (E.w.alloc (.mapIter (some (E.loc 0).1) c0 #[] c0)) := (RowKit.Below.refl _ _).alloc (Nat.le_refl _) _
  have g1 : Go E { E with w := E.w.alloc (.mapIter (some (E.loc 0).1) c0 #[] c0) } := Go.below m hB
  have h1 : (1 : Nat) ≤ E.bl.length := by rw [hbl]; exact Nat.le_refl 1
  have hall : dfF a (es.toList.zip l) #[] = es.toList.zip l := List.filter_eq_self.2 fun p _ => by simp
  refine df_rounds hmix 0 (c0 := c0) (cv := v1) m g (Nat.le_refl _) hcv H (fun E' act' gl' m' b' k' => ?_) _ #[] _ _ ⟨g1.toL h1, g1.mem, ?_, rfl, ?_, ?_⟩ ⟨?_, ?_, ?_, ?_, ?_⟩ (Nat.lt_succ_self _)
  · simp only [Exit.inBlock, if_true, bodyPost]
    refine ⟨k'.df, .tuple #[], by rw [show results Tryd.f32 act'.tmps = pure (.tuple #[]) by kernel_rfl]; rfl, .tuple #[], rfl, E', rfl, ?_, GoL.toGo (by rw [hbl]; exact gl') m', .tup _ _ _ rfl fun j x c h => by simp at h⟩
    rw [b']
    congr 3
    conv => rhs; rw [← hsn]
    rw [List.filter_map]
    rfl
  · rw [hall, hsn]; exact hbl
  · rw [hall, hf]
    exact (hB.block _ (Array.getElem?_eq_some_iff.1 hh).1).trans hh
  · show (E.w.heap.push _)[E.w.heap.size]? = _
    simp
  · rw [act_put_get, if_neg (by simp), act_put_get, if_neg (by simp)]; exact a0
  · rw [act_put_get, if_neg (by simp), act_put_get, if_neg (by simp)]; exact a1
  · exact put_eval (by rw [act_put_size, asz]; decide)
  · rw [act_put_size, act_put_size, asz]
  · rw [act_put_defers, act_put_defers, adf]
end Go.Abs
end
section
theorem Fa.ok (hmix : Tryd.prog.follows .mixedOrders = true) (n : Nat) (t) (u) (h : Fa.m n t = some u) : FnOK Tryd.prog kecG 32 (Fa.shape t).1 (Fa.shape t).2 (Fa.res u).1 (Fa.res u).2 := by
  unfold Fa.m at h
  split at h
  · rename_i hk
    cases h
    exact (df_fn hmix t.1 t.2 hk).ok Tryd.func32 (by decide) (by kernel_rfl)
  · cases h
theorem Fa.s (hmix : Tryd.prog.follows .mixedOrders = true) (n : Nat) : CalleeS Tryd.prog kecG 32 (Fa.c n) :=
  CalleeS.of (res := Fa.res) (shape := Fa.shape) (fun R u K => rfl) (fun args lent t h => by
    unfold Fa.pat at h
    split at h
    · cases h; rfl
    · cases h) fun t u h => Fa.ok hmix n t u h
end
section
theorem Fp.gmap {α β : Type} (h : β → α) (mk0 : Int → Int → LA → LA → β) (n : Nat) (a : LI) (r : Int) (x : Int) (p : LA) (q : LA) : Fp.g (fun a0 a1 a2 a3 => (h (mk0 a0 a1 a2 a3))) n a r x p q = (Fp.g mk0 n a r x p q).map h := by
  unfold Fp.g
  exact (bindO_map fun r2 => (bindO_map fun r4 => rfl))
theorem Fp.run (n : Nat) (a : LI) (r : Int) (x : Int) (p : LA) (q : LA) : runF (Fp.C n) (Fp.A n) n Tryd.f18 [(.ptr 0 []), (.ints .u8 20 a)] [(some (.var (.agg [(.own 1 0), (.own 2 0), (.raw (.map none)), (.raw (.map none)), (.raw (.map none)), (.raw (.map none)), (.int .i64 r), .snil, .snil, .snil, (.int .i64 x)]))), (some (.mp p)), (some (.mp q))] (fun v o => some (v, o)) = Fp.g (fun a0 a1 a2 a3 => (((.tup []), [(some (.var (.agg [(.own 1 0), (.own 2 0), (.raw (.map none)), (.raw (.map none)), (.raw (.map none)), (.raw (.map none)), (.int .i64 a0), .snil, .snil, .snil, (.int .i64 a1)]))), (some (.mp a2)), (some (.mp a3))]) : AV × Blks)) n a r x p q := by kernel_rfl
theorem Fp.call (hmix : Tryd.prog.follows .mixedOrders = true) (n : Nat) (t : (LI × (Int × (Int × (LA × LA))))) (u) (h : Fp.m n t = some u) : FnC Tryd.prog kecG 18 (Fp.shape t).1 (Fp.shape t).2 (Fp.res u).1 (Fp.res u).2 :=
  fnC1 (C := Fp.C n) (A := Fp.A n) (fn := Tryd.f18) rfl (.cons (Fg.s hmix n) (.cons (Fa.s hmix n) .nil)) hmix Tryd.func18 (by kernel_rfl) (lp := []) (by kernel_rfl) .nil
  (nj rfl) (by decide) rfl rfl (by show 2 ≤ Tryd.f18.ntmps; decide) (Fp.run n t.1 t.2.1 t.2.2.1 t.2.2.2.1 t.w) (Fp.gmap Fp.res (fun a0 a1 a2 a3 => (a0, a1, a2, a3)) n t.1 t.2.1 t.2.2.1 t.2.2.2.1 t.w) h
theorem Fp.s (hmix : Tryd.prog.follows .mixedOrders = true) (n : Nat) : CalleeS Tryd.prog kecG 18 (Fp.c n) :=
  .mk1 (res := Fp.res) (shape := Fp.shape) (fun R u K => rfl) (fun _ _ _ h => by unfold Fp.pat at h; split at h <;> cases h; rfl) (fun t u h => Fp.call hmix n t u h) Tryd.func18 (by decide) (by kernel_rfl)
end
section
theorem Fy.gmap {α β : Type} (h : β → α) (mk0 : Int → Int → LA → LA → β) (n : Nat) (r : Int) (x : Int) (p : LA) (q : LA) : Fy.g (fun a0 a1 a2 a3 => (h (mk0 a0 a1 a2 a3))) n r x p q = (Fy.g mk0 n r x p q).map h := by
  unfold Fy.g
  exact rfl
theorem Fy.run (n : Nat) (r : Int) (x : Int) (p : LA) (q : LA) : runF (Fy.C n) (Fy.A n) n Tryd.f19 [(.ptr 0 [])] [(some (.var (.agg [(.own 1 0), (.own 2 0), (.raw (.map none)), (.raw (.map none)), (.raw (.map none)), (.raw (.map none)), (.int .i64 r), .snil, .snil, .snil, (.int .i64 x)]))), (some (.mp p)), (some (.mp q))] (fun v o => some (v, o)) = Fy.g (fun a0 a1 a2 a3 => (((.tup []), [(some (.var (.agg [(.own 1 0), (.own 2 0), (.rmap []), (.rmap []), (.rmap []), (.rmap []), (.int .i64 a0), .snil, .snil, .snil, (.int .i64 a1)]))), (some (.mp a2)), (some (.mp a3))]) : AV × Blks)) n r x p q := by kernel_rfl
theorem Fy.call (hmix : Tryd.prog.follows .mixedOrders = true) (n : Nat) (t : (Int × (Int × (LA × LA)))) (u) (h : Fy.m n t = some u) : FnC Tryd.prog kecG 19 (Fy.shape t).1 (Fy.shape t).2 (Fy.res u).1 (Fy.res u).2 :=
  fnC1 (C := Fy.C n) (A := Fy.A n) (fn := Tryd.f19) rfl .nil hmix Tryd.func19 (by kernel_rfl) (lp := []) (by kernel_rfl) .nil
  (nj rfl) (by decide) rfl rfl (by show 1 ≤ Tryd.f19.ntmps; decide) (Fy.run n t.1 t.2.1 t.2.2.1 t.2.2.2) (Fy.gmap Fy.res (fun a0 a1 a2 a3 => (a0, a1, a2, a3)) n t.1 t.2.1 t.2.2.1 t.2.2.2) h
theorem Fy.s (hmix : Tryd.prog.follows .mixedOrders = true) (n : Nat) : CalleeS Tryd.prog kecG 19 (Fy.c n) :=
  .mk1 (res := Fy.res) (shape := Fy.shape) (fun R u K => rfl) (fun _ _ _ h => by unfold Fy.pat at h; split at h <;> cases h; rfl) (fun t u h => Fy.call hmix n t u h) Tryd.func19 (by decide) (by kernel_rfl)
end
section
noncomputable abbrev Fax.R0 (n : Nat) := roundOf (Fax.C n) (Fax.A n) n Fax.b0
noncomputable abbrev Fax.R1 (n : Nat) := roundOf (Fax.C n) (Fax.A n) n Fax.b1
theorem Fax.l8_0.rmap {α β : Type} (h : β → α) (mk0 : Int → Int → LA → Int → Int → LA → LA → β) (n : Nat) (f : Int → Int → LA → Int → Int → LA → Int → Int → LI → Int → LI → LI → LA → LA → LA → Option β)  (x0 : Int) (x1 : Int) (x2 : LA) (x3 : Int) (x4 : Int) (x5 : LA) (x6 : Int) (x7 : Int) (x8 : LI) (x9 : Int) (x10 : LI) (x11 : LI) (x12 : LA) (x13 : LA) (x14 : LA) : Fax.l8_0.r (fun a0 a1 a2 a3 a4 a5 a6 => (h (mk0 a0 a1 a2 a3 a4 a5 a6))) n (fun y0 y1 y2 y3 y4 y5 y6 y7 y8 y9 y10 y11 y12 y13 y14 => (f y0 y1 y2 y3 y4 y5 y6 y7 y8 y9 y10 y11 y12 y13 y14).map h) x0 x1 x2 x3 x4 x5 x6 x7 x8 x9 x10 x11 x12 x13 x14 = (Fax.l8_0.r mk0 n f x0 x1 x2 x3 x4 x5 x6 x7 x8 x9 x10 x11 x12 x13 x14).map h := by
  unfold Fax.l8_0.r
  exact (ite_map (ite_map (ite_map (bindO_map fun r10 => (bindO_map fun r12 => (bindO_map fun r14 => (bindO_map fun r16 => rfl)))) rfl) rfl) rfl)
theorem Fax.l8_0.gmap {α β : Type} (h : β → α) (mk0 : Int → Int → LA → Int → Int → LA → LA → β) (n : Nat) : ∀ (m : Nat) (x0 : Int) (x1 : Int) (x2 : LA) (x3 : Int) (x4 : Int) (x5 : LA) (x6 : Int) (x7 : Int) (x8 : LI) (x9 : Int) (x10 : LI) (x11 : LI) (x12 : LA) (x13 : LA) (x14 : LA), Fax.l8_0.g (fun a0 a1 a2 a3 a4 a5 a6 => (h (mk0 a0 a1 a2 a3 a4 a5 a6))) n m x0 x1 x2 x3 x4 x5 x6 x7 x8 x9 x10 x11 x12 x13 x14 = (Fax.l8_0.g mk0 n m x0 x1 x2 x3 x4 x5 x6 x7 x8 x9 x10 x11 x12 x13 x14).map h
  | 0, _, _, _, _, _, _, _, _, _, _, _, _, _, _, _ => rfl
  | m + 1, x0, x1, x2, x3, x4, x5, x6, x7, x8, x9, x10, x11, x12, x13, x14 => by
    unfold Fax.l8_0.g
    rw [← Fax.l8_0.rmap]
    congr
    · funext y0 y1 y2 y3 y4 y5 y6 y7 y8 y9 y10 y11 y12 y13 y14; exact Fax.l8_0.gmap h mk0 n m y0 y1 y2 y3 y4 y5 y6 y7 y8 y9 y10 y11 y12 y13 y14
theorem Fax.l8_0.pat_shape : ∀ st t, Fax.l8_0.pat st = some t → st = Fax.l8_0.shape t := fun _ _ h => by unfold Fax.l8_0.pat at h; split at h <;> cases h; rfl
def Fax.l8_0.k0 : Int → Int → LA → Int → Int → LA → LA → Ex × St := (fun a0 a1 a2 a3 a4 a5 a6 => (((.exit 2), (St.mk [(.int .i64 a0), (.int .i64 a1), (.robjs 72 27 a2), (.ptr 0 [])] [(some (.var (.agg [(.own 1 0), (.own 2 0), (.raw (.map none)), (.raw (.map none)), (.raw (.map none)), (.raw (.map none)), (.int .i64 a3), .snil, .snil, .snil, (.int .i64 a4)]))), (some (.mp a5)), (some (.mp a6))])) : Ex × St))
theorem Fax.l8_0.round (n : Nat) (rc : St → Option (Ex × St)) (x0 : Int) (x1 : Int) (x2 : LA) (x3 : Int) (x4 : Int) (x5 : LA) (x6 : Int) (x7 : Int) (x8 : LI) (x9 : Int) (x10 : LI) (x11 : LI) (x12 : LA) (x13 : LA) (x14 : LA) : Fax.R1 n rc ((St.mk [(.int .i64 x0), (.int .i64 x1), (.robjs 77 8 x2), (.ptr 0 []), (.ptr 1 []), (.int .i64 x3), (.int .i64 x4), (.robjs 72 27 x5)] [(some (.var (.agg [(.own 2 0), (.own 3 0), (.raw (.map none)), (.raw (.map none)), (.raw (.map none)), (.raw (.map none)), (.int .i64 x6), .snil, .snil, .snil, (.int .i64 x7)]))), (some (.var (.agg [(.ints .u8 20 x8), (.agg [(.int .u64 x9), (.ints .u64 4 x10), (.rints .u8 x11), (.robjs 77 8 x12)])]))), (some (.mp x13)), (some (.mp x14))])) = Fax.l8_0.r Fax.l8_0.k0 n (fun y0 y1 y2 y3 y4 y5 y6 y7 y8 y9 y10 y11 y12 y13 y14 => rc ((St.mk [(.int .i64 y0), (.int .i64 y1), (.robjs 77 8 y2), (.ptr 0 []), (.ptr 1 []), (.int .i64 y3), (.int .i64 y4), (.robjs 72 27 y5)] [(some (.var (.agg [(.own 2 0), (.own 3 0), (.raw (.map none)), (.raw (.map none)), (.raw (.map none)), (.raw (.map none)), (.int .i64 y6), .snil, .snil, .snil, (.int .i64 y7)]))), (some (.var (.agg [(.ints .u8 20 y8), (.agg [(.int .u64 y9), (.ints .u64 4 y10), (.rints .u8 y11), (.robjs 77 8 y12)])]))), (some (.mp y13)), (some (.mp y14))]))) x0 x1 x2 x3 x4 x5 x6 x7 x8 x9 x10 x11 x12 x13 x14 := by kernel_rfl
theorem Fax.l8_0.loop' (n : Nat) : ∀ (m : Nat) (t : Ty13), loopOf (Fax.R1 n) m (Fax.l8_0.shape t) = Fax.l8_0.g Fax.l8_0.k0 n m t.1 t.2.1 t.2.2.1 t.2.2.2.1 t.w.1 t.w.2.1 t.w.2.2.1 t.w.2.2.2.1 t.x.1 t.x.2.1 t.x.2.2.1 t.x.2.2.2.1 t.x.w.1 t.x.w.2.1 t.x.w.2.2 :=
  loop_of_round (shape := Fax.l8_0.shape) (body := Fax.R1 n) (g := fun m t => Fax.l8_0.g Fax.l8_0.k0 n m t.1 t.2.1 t.2.2.1 t.2.2.2.1 t.w.1 t.w.2.1 t.w.2.2.1 t.w.2.2.2.1 t.x.1 t.x.2.1 t.x.2.2.1 t.x.2.2.2.1 t.x.w.1 t.x.w.2.1 t.x.w.2.2) (fun t => rfl)
    fun m t ih => (Fax.l8_0.round n (loopOf (Fax.R1 n) m) t.1 t.2.1 t.2.2.1 t.2.2.2.1 t.w.1 t.w.2.1 t.w.2.2.1 t.w.2.2.2.1 t.x.1 t.x.2.1 t.x.2.2.1 t.x.2.2.2.1 t.x.w.1 t.x.w.2.1 t.x.w.2.2).trans (congrFun (congrFun (congrFun (congrFun (congrFun (congrFun (congrFun (congrFun (congrFun (congrFun (congrFun (congrFun (congrFun (congrFun (congrFun (congrArg (Fax.l8_0.r Fax.l8_0.k0 n) (funext fun y0 => funext fun y1 => funext fun y2 => funext fun y3 => funext fun y4 => funext fun y5 => funext fun y6 => funext fun y7 => funext fun y8 => funext fun y9 => funext fun y10 => funext fun y11 => funext fun y12 => funext fun y13 => funext fun y14 => ih (y0, y1, y2, y3, y4, y5, y6, y7, y8, y9, y10, y11, y12, y13, y14))) t.1) t.2.1) t.2.2.1) t.2.2.2.1) t.w.1) t.w.2.1) t.w.2.2.1) t.w.2.2.2.1) t.x.1) t.x.2.1) t.x.2.2.1) t.x.2.2.2.1) t.x.w.1) t.x.w.2.1) t.x.w.2.2)
theorem Fax.l8_0.loop (n m : Nat) (t : Ty13) : loopOf (Fax.R1 n) m (Fax.l8_0.shape t) = (Fax.l8_0.m n m t).map Fax.l8_0.res :=
  (Fax.l8_0.loop' n m t).trans (Fax.l8_0.gmap Fax.l8_0.res (fun a0 a1 a2 a3 a4 a5 a6 => (a0, a1, a2, a3, a4, a5, a6)) n m t.1 t.2.1 t.2.2.1 t.2.2.2.1 t.w.1 t.w.2.1 t.w.2.2.1 t.w.2.2.2.1 t.x.1 t.x.2.1 t.x.2.2.1 t.x.2.2.2.1 t.x.w.1 t.x.w.2.1 t.x.w.2.2)
theorem Fax.l3_0.rmap {α β : Type} (h : β → α) (mk0 : Int → Int → LA → LA → β) (n : Nat) (f : Int → Int → LA → Int → Int → LA → LA → Option β)  (x0 : Int) (x1 : Int) (x2 : LA) (x3 : Int) (x4 : Int) (x5 : LA) (x6 : LA) : Fax.l3_0.r (fun a0 a1 a2 a3 => (h (mk0 a0 a1 a2 a3))) n (fun y0 y1 y2 y3 y4 y5 y6 => (f y0 y1 y2 y3 y4 y5 y6).map h) x0 x1 x2 x3 x4 x5 x6 = (Fax.l3_0.r mk0 n f x0 x1 x2 x3 x4 x5 x6).map h := by
  unfold Fax.l3_0.r
  exact (ite_map (ite_map (ite_map (bindO_map fun r10 => (bindO_map fun r12 => (bindO_map fun r14 => (bindO_map fun r16 => (bindO_map fun r18 => (bindO_map fun r20 => (bindO_map fun r22 => (bindO_map fun r24 => (bindO_map fun r26 => (bindO_map fun r28 => rfl)))))))))) rfl) rfl) rfl)
theorem Fax.l3_0.gmap {α β : Type} (h : β → α) (mk0 : Int → Int → LA → LA → β) (n : Nat) : ∀ (m : Nat) (x0 : Int) (x1 : Int) (x2 : LA) (x3 : Int) (x4 : Int) (x5 : LA) (x6 : LA), Fax.l3_0.g (fun a0 a1 a2 a3 => (h (mk0 a0 a1 a2 a3))) n m x0 x1 x2 x3 x4 x5 x6 = (Fax.l3_0.g mk0 n m x0 x1 x2 x3 x4 x5 x6).map h
  | 0, _, _, _, _, _, _, _ => rfl
  | m + 1, x0, x1, x2, x3, x4, x5, x6 => by
    unfold Fax.l3_0.g
    rw [← Fax.l3_0.rmap]
    congr
    · funext y0 y1 y2 y3 y4 y5 y6; exact Fax.l3_0.gmap h mk0 n m y0 y1 y2 y3 y4 y5 y6
theorem Fax.l3_0.pat_shape : ∀ st t, Fax.l3_0.pat st = some t → st = Fax.l3_0.shape t := fun _ _ h => by unfold Fax.l3_0.pat at h; split at h <;> cases h; rfl
def Fax.l3_0.k0 : Int → Int → LA → LA → Ex × St := (fun a0 a1 a2 a3 => (((.exit 0), (St.mk [(.ptr 0 [])] [(some (.var (.agg [(.own 1 0), (.own 2 0), (.raw (.map none)), (.raw (.map none)), (.raw (.map none)), (.raw (.map none)), (.int .i64 a0), .snil, .snil, .snil, (.int .i64 a1)]))), (some (.mp a2)), (some (.mp a3))])) : Ex × St))
theorem Fax.l3_0.round (n : Nat) (rc : St → Option (Ex × St)) (x0 : Int) (x1 : Int) (x2 : LA) (x3 : Int) (x4 : Int) (x5 : LA) (x6 : LA) : Fax.R0 n rc ((St.mk [(.int .i64 x0), (.int .i64 x1), (.robjs 72 27 x2), (.ptr 0 [])] [(some (.var (.agg [(.own 1 0), (.own 2 0), (.raw (.map none)), (.raw (.map none)), (.raw (.map none)), (.raw (.map none)), (.int .i64 x3), .snil, .snil, .snil, (.int .i64 x4)]))), (some (.mp x5)), (some (.mp x6))])) = Fax.l3_0.r Fax.l3_0.k0 n (fun y0 y1 y2 y3 y4 y5 y6 => rc ((St.mk [(.int .i64 y0), (.int .i64 y1), (.robjs 72 27 y2), (.ptr 0 [])] [(some (.var (.agg [(.own 1 0), (.own 2 0), (.raw (.map none)), (.raw (.map none)), (.raw (.map none)), (.raw (.map none)), (.int .i64 y3), .snil, .snil, .snil, (.int .i64 y4)]))), (some (.mp y5)), (some (.mp y6))]))) x0 x1 x2 x3 x4 x5 x6 := by kernel_rfl
theorem Fax.l3_0.loop' (n : Nat) : ∀ (m : Nat) (t : Ty15), loopOf (Fax.R0 n) m (Fax.l3_0.shape t) = Fax.l3_0.g Fax.l3_0.k0 n m t.1 t.2.1 t.2.2.1 t.2.2.2.1 t.w.1 t.w.2.1 t.w.2.2 :=
  loop_of_round (shape := Fax.l3_0.shape) (body := Fax.R0 n) (g := fun m t => Fax.l3_0.g Fax.l3_0.k0 n m t.1 t.2.1 t.2.2.1 t.2.2.2.1 t.w.1 t.w.2.1 t.w.2.2) (fun t => rfl)
    fun m t ih => (Fax.l3_0.round n (loopOf (Fax.R0 n) m) t.1 t.2.1 t.2.2.1 t.2.2.2.1 t.w.1 t.w.2.1 t.w.2.2).trans (congrFun (congrFun (congrFun (congrFun (congrFun (congrFun (congrFun (congrArg (Fax.l3_0.r Fax.l3_0.k0 n) (funext fun y0 => funext fun y1 => funext fun y2 => funext fun y3 => funext fun y4 => funext fun y5 => funext fun y6 => ih (y0, y1, y2, y3, y4, y5, y6))) t.1) t.2.1) t.2.2.1) t.2.2.2.1) t.w.1) t.w.2.1) t.w.2.2)
theorem Fax.l3_0.loop (n m : Nat) (t : Ty15) : loopOf (Fax.R0 n) m (Fax.l3_0.shape t) = (Fax.l3_0.m n m t).map Fax.l3_0.res :=
  (Fax.l3_0.loop' n m t).trans (Fax.l3_0.gmap Fax.l3_0.res (fun a0 a1 a2 a3 => (a0, a1, a2, a3)) n m t.1 t.2.1 t.2.2.1 t.2.2.2.1 t.w.1 t.w.2.1 t.w.2.2)
theorem Fax.gmap {α β : Type} (h : β → α) (mk0 : Int → Int → LA → LA → β) (n : Nat) (a0 : LA) : Fax.g (fun a0 a1 a2 a3 => (h (mk0 a0 a1 a2 a3))) n a0 = (Fax.g mk0 n a0).map h := by
  unfold Fax.g
  exact (bindO_map fun r2 => (bindO_map fun r4 => rfl))
theorem Fax.run (n : Nat) (a0 : LA) : runF (Fax.C n) (Fax.A n) n Tryd.f9 [(.robjs 72 27 a0)] [] (fun v o => some (v, o)) = Fax.g (fun a0 a1 a2 a3 => (((.ptr 0 []), [(some (.var (.agg [(.own 1 0), (.own 2 0), (.rmap []), (.rmap []), (.rmap []), (.rmap []), (.int .i64 a0), .snil, .snil, .snil, (.int .i64 a1)]))), (some (.mp a2)), (some (.mp a3))]) : AV × Blks)) n a0 := by kernel_rfl
theorem Fax.call (hmix : Tryd.prog.follows .mixedOrders = true) (n : Nat) (t : LA) (u) (h : Fax.m n t = some u) : FnC Tryd.prog kecG 9 (Fax.shape t).1 (Fax.shape t).2 (Fax.res u).1 (Fax.res u).2 :=
  fnC1 (C := Fax.C n) (A := Fax.A n) (fn := Tryd.f9) rfl (.cons (Fp.s hmix n) (.cons (Fy.s hmix n) .nil)) hmix Tryd.func9 (by kernel_rfl) (lp := [Fax.b0, Fax.b1]) (by kernel_rfl) (.cons (show (Fax.A n).loop (key Fax.b0) = some (.mk' Fax.l3_0.pat (Fax.l3_0.m n n) Fax.l3_0.resK) by kernel_rfl) (LoopS.of (res := Fax.l3_0.res) (fun R u K => rfl) Fax.l3_0.pat_shape fun t => Fax.l3_0.loop n n t)
  (.cons (show (Fax.A n).loop (key Fax.b1) = some (.mk' Fax.l8_0.pat (Fax.l8_0.m n n) Fax.l8_0.resK) by kernel_rfl) (LoopS.of (res := Fax.l8_0.res) (fun R u K => rfl) Fax.l8_0.pat_shape fun t => Fax.l8_0.loop n n t)
  .nil))
  (nj rfl) (by decide) rfl rfl (by show 1 ≤ Tryd.f9.ntmps; decide) (Fax.run n t) (Fax.gmap Fax.res (fun a0 a1 a2 a3 => (a0, a1, a2, a3)) n t) h
theorem Fax.s (hmix : Tryd.prog.follows .mixedOrders = true) (n : Nat) : CalleeS Tryd.prog kecG 9 (Fax.c n) :=
  .mk1 (res := Fax.res) (shape := Fax.shape) (fun R u K => rfl) (fun _ _ _ h => by unfold Fax.pat at h; split at h <;> cases h; rfl) (fun t u h => Fax.call hmix n t u h) Tryd.func9 (by decide) (by kernel_rfl)
end
section
theorem Fak.gmap {α β : Type} (h : β → α) (mk0 : Bool → β) (n : Nat) (a0_0 : Int) (a0_1 : Int) (a0_2 : LI) (a0_3 : LI) (a0_4 : LI) (a0_5 : LI) (a0_6 : Int) : Fak.g (fun a0 => (h (mk0 a0))) n a0_0 a0_1 a0_2 a0_3 a0_4 a0_5 a0_6 = (Fak.g mk0 n a0_0 a0_1 a0_2 a0_3 a0_4 a0_5 a0_6).map h := by
  unfold Fak.g
  exact (ite_map rfl (ite_map rfl (ite_map rfl (ite_map rfl rfl))))
theorem Fak.run (n : Nat) (a0_0 : Int) (a0_1 : Int) (a0_2 : LI) (a0_3 : LI) (a0_4 : LI) (a0_5 : LI) (a0_6 : Int) : runF (Fak.C n) (Fak.A n) n Tryd.f34 [(.agg [(.int .u8 a0_0), (.int .i64 a0_1), (.ints .u8 20 a0_2), (.ints .u64 4 a0_3), (.ints .u64 4 a0_4), (.rints .u8 a0_5), (.int .u16 a0_6)])] [] (fun v o => some (v, o)) = Fak.g (fun a0 => (((.bool a0), []) : AV × Blks)) n a0_0 a0_1 a0_2 a0_3 a0_4 a0_5 a0_6 := by kernel_rfl
theorem Fak.call (hmix : Tryd.prog.follows .mixedOrders = true) (n : Nat) (t : Ty16) (u) (h : Fak.m n t = some u) : FnC Tryd.prog kecG 34 (Fak.shape t).1 (Fak.shape t).2 (Fak.res u).1 (Fak.res u).2 :=
  fnC1 (C := Fak.C n) (A := Fak.A n) (fn := Tryd.f34) rfl .nil hmix Tryd.func34 (by kernel_rfl) (lp := []) (by kernel_rfl) .nil
  (nj rfl) (by decide) rfl rfl (by show 1 ≤ Tryd.f34.ntmps; decide) (Fak.run n t.1 t.2.1 t.2.2.1 t.2.2.2.1 t.w.1 t.w.2.1 t.w.2.2) (Fak.gmap Fak.res (fun a0 => a0) n t.1 t.2.1 t.2.2.1 t.2.2.2.1 t.w.1 t.w.2.1 t.w.2.2) h
theorem Fak.s (hmix : Tryd.prog.follows .mixedOrders = true) (n : Nat) : CalleeS Tryd.prog kecG 34 (Fak.c n) :=
  .mk1 (res := Fak.res) (shape := Fak.shape) (fun R u K => rfl) (fun _ _ _ h => by unfold Fak.pat at h; split at h <;> cases h; rfl) (fun t u h => Fak.call hmix n t u h) Tryd.func34 (by decide) (by kernel_rfl)
end
section
noncomputable abbrev Fal.R0 (n : Nat) := roundOf (Fal.C n) (Fal.A n) n Fal.b0
theorem Fal.l3_0.rmap {α β : Type} (h : β → α) (mk0 : LI → β) (n : Nat) (f : Int → Int → LA → LA → LI → Option β)  (x0 : Int) (x1 : Int) (x2 : LA) (x3 : LA) (x4 : LI) : Fal.l3_0.r (fun a0 => (h (mk0 a0))) n (fun y0 y1 y2 y3 y4 => (f y0 y1 y2 y3 y4).map h) x0 x1 x2 x3 x4 = (Fal.l3_0.r mk0 n f x0 x1 x2 x3 x4).map h := by
  unfold Fal.l3_0.r
  exact (ite_map (ite_map (ite_map (bindO_map fun r10 => (bindO_map fun r12 => (bindO_map fun r14 => (bindO_map fun r16 => (bindO_map fun r18 => (bindO_map fun r20 => (bindO_map fun r22 => (bindO_map fun r24 => (ite_map rfl (ite_map rfl (ite_map (ite_map (ite_map (bindO_map fun r36 => (bindO_map fun r38 => (bindO_map fun r40 => (bindO_map fun r42 => (bindO_map fun r44 => (bindO_map fun r46 => (bindO_map fun r48 => (bindO_map fun r50 => (bindO_map fun r52 => (ite_map (ite_map (ite_map (bindO_map fun r60 => (bindO_map fun r62 => (bindO_map fun r64 => (bindO_map fun r66 => (bindO_map fun r68 => (bindO_map fun r70 => (bindO_map fun r72 => (bindO_map fun r74 => (ite_map (ite_map (ite_map (bindO_map fun r82 => (bindO_map fun r84 => (bindO_map fun r86 => (bindO_map fun r88 => (bindO_map fun r90 => (bindO_map fun r92 => (bindO_map fun r94 => (bindO_map fun r96 => (ite_map rfl (ite_map rfl rfl)))))))))) rfl) rfl) (ite_map rfl rfl)))))))))) rfl) rfl) (ite_map rfl rfl))))))))))) rfl) rfl) (ite_map rfl rfl)))))))))))) rfl) rfl) rfl)
theorem Fal.l3_0.gmap {α β : Type} (h : β → α) (mk0 : LI → β) (n : Nat) : ∀ (m : Nat) (x0 : Int) (x1 : Int) (x2 : LA) (x3 : LA) (x4 : LI), Fal.l3_0.g (fun a0 => (h (mk0 a0))) n m x0 x1 x2 x3 x4 = (Fal.l3_0.g mk0 n m x0 x1 x2 x3 x4).map h
  | 0, _, _, _, _, _ => rfl
  | m + 1, x0, x1, x2, x3, x4 => by
    unfold Fal.l3_0.g
    rw [← Fal.l3_0.rmap]
    congr
    · funext y0 y1 y2 y3 y4; exact Fal.l3_0.gmap h mk0 n m y0 y1 y2 y3 y4
theorem Fal.l3_0.pat_shape : ∀ st t, Fal.l3_0.pat st = some t → st = Fal.l3_0.shape t := fun _ _ h => by unfold Fal.l3_0.pat at h; split at h <;> cases h; rfl
def Fal.l3_0.k0 : LI → Ex × St := (fun a0 => (((.exit 0), (St.mk [(.own 0 1)] [(some (.ints .i64 a0))])) : Ex × St))
theorem Fal.l3_0.round (n : Nat) (rc : St → Option (Ex × St)) (x0 : Int) (x1 : Int) (x2 : LA) (x3 : LA) (x4 : LI) : Fal.R0 n rc ((St.mk [(.int .i64 x0), (.int .i64 x1), (.robjs 47 32 x2), (.robjs 47 32 x3), (.own 0 1)] [(some (.ints .i64 x4))])) = Fal.l3_0.r Fal.l3_0.k0 n (fun y0 y1 y2 y3 y4 => rc ((St.mk [(.int .i64 y0), (.int .i64 y1), (.robjs 47 32 y2), (.robjs 47 32 y3), (.own 0 1)] [(some (.ints .i64 y4))]))) x0 x1 x2 x3 x4 := by kernel_rfl
theorem Fal.l3_0.loop' (n : Nat) : ∀ (m : Nat) (t : (Int × (Int × (LA × (LA × LI))))), loopOf (Fal.R0 n) m (Fal.l3_0.shape t) = Fal.l3_0.g Fal.l3_0.k0 n m t.1 t.2.1 t.2.2.1 t.2.2.2.1 t.w :=
  loop_of_round (shape := Fal.l3_0.shape) (body := Fal.R0 n) (g := fun m t => Fal.l3_0.g Fal.l3_0.k0 n m t.1 t.2.1 t.2.2.1 t.2.2.2.1 t.w) (fun t => rfl)
    fun m t ih => (Fal.l3_0.round n (loopOf (Fal.R0 n) m) t.1 t.2.1 t.2.2.1 t.2.2.2.1 t.w).trans (congrFun (congrFun (congrFun (congrFun (congrFun (congrArg (Fal.l3_0.r Fal.l3_0.k0 n) (funext fun y0 => funext fun y1 => funext fun y2 => funext fun y3 => funext fun y4 => ih (y0, y1, y2, y3, y4))) t.1) t.2.1) t.2.2.1) t.2.2.2.1) t.w)
theorem Fal.l3_0.loop (n m : Nat) (t : (Int × (Int × (LA × (LA × LI))))) : loopOf (Fal.R0 n) m (Fal.l3_0.shape t) = (Fal.l3_0.m n m t).map Fal.l3_0.res :=
  (Fal.l3_0.loop' n m t).trans (Fal.l3_0.gmap Fal.l3_0.res (fun a0 => a0) n m t.1 t.2.1 t.2.2.1 t.2.2.2.1 t.w)
theorem Fal.gmap {α β : Type} (h : β → α) (mk0 : LI → β) (n : Nat) (a0 : LA) : Fal.g (fun a0 => (h (mk0 a0))) n a0 = (Fal.g mk0 n a0).map h := by
  unfold Fal.g
  exact (bindO_map fun r2 => rfl)
theorem Fal.run (n : Nat) (a0 : LA) : runF (Fal.C n) (Fal.A n) n Tryd.f20 [(.robjs 47 32 a0)] [] (fun v o => some (v, o)) = Fal.g (fun a0 => (((.own 0 1), [(some (.ints .i64 a0))]) : AV × Blks)) n a0 := by kernel_rfl
theorem Fal.call (hmix : Tryd.prog.follows .mixedOrders = true) (n : Nat) (t : LA) (u) (h : Fal.m n t = some u) : FnC Tryd.prog kecG 20 (Fal.shape t).1 (Fal.shape t).2 (Fal.res u).1 (Fal.res u).2 :=
  fnC1 (C := Fal.C n) (A := Fal.A n) (fn := Tryd.f20) rfl (.cons (Fak.s hmix n) .nil) hmix Tryd.func20 (by kernel_rfl) (lp := [Fal.b0]) (by kernel_rfl) (.cons (show (Fal.A n).loop (key Fal.b0) = some (.mk' Fal.l3_0.pat (Fal.l3_0.m n n) Fal.l3_0.resK) by kernel_rfl) (LoopS.of (res := Fal.l3_0.res) (fun R u K => rfl) Fal.l3_0.pat_shape fun t => Fal.l3_0.loop n n t)
  .nil)
  (nj rfl) (by decide) rfl rfl (by show 1 ≤ Tryd.f20.ntmps; decide) (Fal.run n t) (Fal.gmap Fal.res (fun a0 => a0) n t) h
theorem Fal.s (hmix : Tryd.prog.follows .mixedOrders = true) (n : Nat) : CalleeS Tryd.prog kecG 20 (Fal.c n) :=
  .mk1 (res := Fal.res) (shape := Fal.shape) (fun R u K => rfl) (fun _ _ _ h => by unfold Fal.pat at h; split at h <;> cases h; rfl) (fun t u h => Fal.call hmix n t u h) Tryd.func20 (by decide) (by kernel_rfl)
end
section
theorem Ff.gmap {α β : Type} (h : β → α) (mk0 : LI → β) (n : Nat) (r : Int) (b : Bool) (l : LI) : Ff.g (fun a0 => (h (mk0 a0))) n r b l = (Ff.g mk0 n r b l).map h := by
  unfold Ff.g
  exact (ite_map (ite_map rfl rfl) rfl)
theorem Ff.run (n : Nat) (r : Int) (b : Bool) (l : LI) : runF (Ff.C n) (Ff.A n) n Tryd.f35 [(.int .u8 r), (.bool b), (.ptr 0 [])] [(some (.var (.own 1 1))), (some (.ints .u8 l))] (fun v o => some (v, o)) = Ff.g (fun a0 => (((.tup []), [(some (.var (.own 2 1))), none, (some (.ints .u8 a0))]) : AV × Blks)) n r b l := by kernel_rfl
theorem Ff.call (hmix : Tryd.prog.follows .mixedOrders = true) (n : Nat) (t : (Int × (Bool × LI))) (u) (h : Ff.m n t = some u) : FnC Tryd.prog kecG 35 (Ff.shape t).1 (Ff.shape t).2 (Ff.res u).1 (Ff.res u).2 :=
  fnC1 (C := Ff.C n) (A := Ff.A n) (fn := Tryd.f35) rfl .nil hmix Tryd.func35 (by kernel_rfl) (lp := []) (by kernel_rfl) .nil
  (nj rfl) (by decide) rfl rfl (by show 3 ≤ Tryd.f35.ntmps; decide) (Ff.run n t.1 t.2.1 t.2.2) (Ff.gmap Ff.res (fun a0 => a0) n t.1 t.2.1 t.2.2) h
theorem Ff.s (hmix : Tryd.prog.follows .mixedOrders = true) (n : Nat) : CalleeS Tryd.prog kecG 35 (Ff.c n) :=
  .mk1 (res := Ff.res) (shape := Ff.shape) (fun R u K => rfl) (fun _ _ _ h => by unfold Ff.pat at h; split at h <;> cases h; rfl) (fun t u h => Ff.call hmix n t u h) Tryd.func35 (by decide) (by kernel_rfl)
end
section
theorem Fj.gmap {α β : Type} (h : β → α) (mk0 : Bool → β) (n : Nat) (a0_0_0 : Int) (a0_0_1 : Int) (a0_0_2 : LI) (a0_0_3 : LI) (a0_0_4 : LI) (a0_0_5 : LI) (a0_0_6 : Int) (a0_1_0_0 : LA) (a0_1_0_1 : LA) (a0_1_0_6 : Int) (a0_1_0_10 : Int) (a0_1_1_0 : LI) (a0_1_1_1 : LI) (a0_1_1_2 : Bool) (a0_1_1_3 : LI) (a0_1_1_4 : LI) (a0_1_1_5 : LI) (a0_1_1_6 : Int) (a0_1_1_7 : Int) (a0_1_1_8 : Int) (a0_1_1_9 : LI) (a0_1_1_10 : LI) (a0_1_1_11 : Bool) (a0_1_1_12 : LI) (a0_1_1_13 : Int) (a0_1_1_14 : Int) (a0_1_1_15 : LI) (a0_1_1_16 : LI) (a0_1_2 : Int) (a0_1_3 : Bool) (a0_1_4 : Bool) (a0_1_5 : LA) (a0_2 : Int) : Fj.g (fun a0 => (h (mk0 a0))) n a0_0_0 a0_0_1 a0_0_2 a0_0_3 a0_0_4 a0_0_5 a0_0_6 a0_1_0_0 a0_1_0_1 a0_1_0_6 a0_1_0_10 a0_1_1_0 a0_1_1_1 a0_1_1_2 a0_1_1_3 a0_1_1_4 a0_1_1_5 a0_1_1_6 a0_1_1_7 a0_1_1_8 a0_1_1_9 a0_1_1_10 a0_1_1_11 a0_1_1_12 a0_1_1_13 a0_1_1_14 a0_1_1_15 a0_1_1_16 a0_1_2 a0_1_3 a0_1_4 a0_1_5 a0_2 = (Fj.g mk0 n a0_0_0 a0_0_1 a0_0_2 a0_0_3 a0_0_4 a0_0_5 a0_0_6 a0_1_0_0 a0_1_0_1 a0_1_0_6 a0_1_0_10 a0_1_1_0 a0_1_1_1 a0_1_1_2 a0_1_1_3 a0_1_1_4 a0_1_1_5 a0_1_1_6 a0_1_1_7 a0_1_1_8 a0_1_1_9 a0_1_1_10 a0_1_1_11 a0_1_1_12 a0_1_1_13 a0_1_1_14 a0_1_1_15 a0_1_1_16 a0_1_2 a0_1_3 a0_1_4 a0_1_5 a0_2).map h := by
  unfold Fj.g
  exact (ite_map rfl (ite_map rfl (ite_map rfl (ite_map rfl (ite_map rfl (ite_map rfl (ite_map rfl (ite_map rfl (ite_map rfl (ite_map rfl (ite_map rfl (ite_map rfl rfl))))))))))))
theorem Fj.run (n : Nat) (a0_0_0 : Int) (a0_0_1 : Int) (a0_0_2 : LI) (a0_0_3 : LI) (a0_0_4 : LI) (a0_0_5 : LI) (a0_0_6 : Int) (a0_1_0_0 : LA) (a0_1_0_1 : LA) (a0_1_0_6 : Int) (a0_1_0_10 : Int) (a0_1_1_0 : LI) (a0_1_1_1 : LI) (a0_1_1_2 : Bool) (a0_1_1_3 : LI) (a0_1_1_4 : LI) (a0_1_1_5 : LI) (a0_1_1_6 : Int) (a0_1_1_7 : Int) (a0_1_1_8 : Int) (a0_1_1_9 : LI) (a0_1_1_10 : LI) (a0_1_1_11 : Bool) (a0_1_1_12 : LI) (a0_1_1_13 : Int) (a0_1_1_14 : Int) (a0_1_1_15 : LI) (a0_1_1_16 : LI) (a0_1_2 : Int) (a0_1_3 : Bool) (a0_1_4 : Bool) (a0_1_5 : LA) (a0_2 : Int) : runF (Fj.C n) (Fj.A n) n Tryd.f36 [(.agg [(.agg [(.int .u8 a0_0_0), (.int .i64 a0_0_1), (.ints .u8 20 a0_0_2), (.ints .u64 4 a0_0_3), (.ints .u64 4 a0_0_4), (.rints .u8 a0_0_5), (.int .u16 a0_0_6)]), (.rptr (.agg [(.rptr (.agg [(.rmap a0_1_0_0), (.rmap a0_1_0_1), (.rmap []), (.rmap []), (.rmap []), (.rmap []), (.int .i64 a0_1_0_6), .snil, .snil, .snil, (.int .i64 a0_1_0_10)])), (.agg [(.ints .u8 20 a0_1_1_0), (.ints .u64 4 a0_1_1_1), (.bool a0_1_1_2), (.ints .u8 20 a0_1_1_3), (.rints .u8 a0_1_1_4), (.rints .u8 a0_1_1_5), (.int .u64 a0_1_1_6), (.int .u64 a0_1_1_7), (.int .u64 a0_1_1_8), (.ints .u64 4 a0_1_1_9), (.ints .u64 4 a0_1_1_10), (.bool a0_1_1_11), (.ints .u8 20 a0_1_1_12), (.int .u64 a0_1_1_13), (.int .u64 a0_1_1_14), (.rints .u8 a0_1_1_15), (.rints .u8 a0_1_1_16)]), (.int .u8 a0_1_2), (.bool a0_1_3), (.bool a0_1_4), (.robjs 47 32 a0_1_5)])), (.int .i64 a0_2)])] [] (fun v o => some (v, o)) = Fj.g (fun a0 => (((.bool a0), []) : AV × Blks)) n a0_0_0 a0_0_1 a0_0_2 a0_0_3 a0_0_4 a0_0_5 a0_0_6 a0_1_0_0 a0_1_0_1 a0_1_0_6 a0_1_0_10 a0_1_1_0 a0_1_1_1 a0_1_1_2 a0_1_1_3 a0_1_1_4 a0_1_1_5 a0_1_1_6 a0_1_1_7 a0_1_1_8 a0_1_1_9 a0_1_1_10 a0_1_1_11 a0_1_1_12 a0_1_1_13 a0_1_1_14 a0_1_1_15 a0_1_1_16 a0_1_2 a0_1_3 a0_1_4 a0_1_5 a0_2 := by kernel_rfl
theorem Fj.call (hmix : Tryd.prog.follows .mixedOrders = true) (n : Nat) (t : Ty4) (u) (h : Fj.m n t = some u) : FnC Tryd.prog kecG 36 (Fj.shape t).1 (Fj.shape t).2 (Fj.res u).1 (Fj.res u).2 :=
  fnC1 (C := Fj.C n) (A := Fj.A n) (fn := Tryd.f36) rfl .nil hmix Tryd.func36 (by kernel_rfl) (lp := []) (by kernel_rfl) .nil
  (nj rfl) (by decide) rfl rfl (by show 1 ≤ Tryd.f36.ntmps; decide) (Fj.run n t.1 t.2.1 t.2.2.1 t.2.2.2.1 t.w.1 t.w.2.1 t.w.2.2.1 t.w.2.2.2.1 t.x.1 t.x.2.1 t.x.2.2.1 t.x.2.2.2.1 t.x.w.1 t.x.w.2.1 t.x.w.2.2.1 t.x.w.2.2.2.1 t.y.1 t.y.2.1 t.y.2.2.1 t.y.2.2.2.1 t.y.w.1 t.y.w.2.1 t.y.w.2.2.1 t.y.w.2.2.2.1 t.y.x.1 t.y.x.2.1 t.y.x.2.2.1 t.y.x.2.2.2.1 t.y.x.w.1 t.y.x.w.2.1 t.y.x.w.2.2.1 t.y.x.w.2.2.2.1 t.y.y) (Fj.gmap Fj.res (fun a0 => a0) n t.1 t.2.1 t.2.2.1 t.2.2.2.1 t.w.1 t.w.2.1 t.w.2.2.1 t.w.2.2.2.1 t.x.1 t.x.2.1 t.x.2.2.1 t.x.2.2.2.1 t.x.w.1 t.x.w.2.1 t.x.w.2.2.1 t.x.w.2.2.2.1 t.y.1 t.y.2.1 t.y.2.2.1 t.y.2.2.2.1 t.y.w.1 t.y.w.2.1 t.y.w.2.2.1 t.y.w.2.2.2.1 t.y.x.1 t.y.x.2.1 t.y.x.2.2.1 t.y.x.2.2.2.1 t.y.x.w.1 t.y.x.w.2.1 t.y.x.w.2.2.1 t.y.x.w.2.2.2.1 t.y.y) h
theorem Fj.s (hmix : Tryd.prog.follows .mixedOrders = true) (n : Nat) : CalleeS Tryd.prog kecG 36 (Fj.c n) :=
  .mk1 (res := Fj.res) (shape := Fj.shape) (fun R u K => rfl) (fun _ _ _ h => by unfold Fj.pat at h; split at h <;> cases h; rfl) (fun t u h => Fj.call hmix n t u h) Tryd.func36 (by decide) (by kernel_rfl)
end
section
noncomputable abbrev Fk.R0 (n : Nat) := roundOf (Fk.C n) (Fk.A n) n Fk.b0
theorem Fk.l2_0.rmap {α β : Type} (h : β → α) (mk0 : Int → β) (mk1 : β) (n : Nat) (f : Int → Int → Int → LI → Option β)  (x0 : Int) (x1 : Int) (x2 : Int) (x3 : LI) : Fk.l2_0.r (fun a0 => (h (mk0 a0))) (h mk1) n (fun y0 y1 y2 y3 => (f y0 y1 y2 y3).map h) x0 x1 x2 x3 = (Fk.l2_0.r mk0 mk1 n f x0 x1 x2 x3).map h := by
  unfold Fk.l2_0.r
  exact (ite_map (ite_map (ite_map (ite_map rfl rfl) rfl) rfl) rfl)
theorem Fk.l2_0.gmap {α β : Type} (h : β → α) (mk0 : Int → β) (mk1 : β) (n : Nat) : ∀ (m : Nat) (x0 : Int) (x1 : Int) (x2 : Int) (x3 : LI), Fk.l2_0.g (fun a0 => (h (mk0 a0))) (h mk1) n m x0 x1 x2 x3 = (Fk.l2_0.g mk0 mk1 n m x0 x1 x2 x3).map h
  | 0, _, _, _, _ => rfl
  | m + 1, x0, x1, x2, x3 => by
    unfold Fk.l2_0.g
    rw [← Fk.l2_0.rmap]
    congr
    · funext y0 y1 y2 y3; exact Fk.l2_0.gmap h mk0 mk1 n m y0 y1 y2 y3
theorem Fk.l2_0.pat_shape : ∀ st t, Fk.l2_0.pat st = some t → st = Fk.l2_0.shape t := fun _ _ h => by unfold Fk.l2_0.pat at h; split at h <;> cases h; rfl
def Fk.l2_0.k0 : Int → Ex × St := (fun a0 => ((.ret, (St.mk [(.int .i64 a0)] [])) : Ex × St))
def Fk.l2_0.k1 : Ex × St := (((.exit 0), (St.mk [.any] [])) : Ex × St)
theorem Fk.l2_0.round (n : Nat) (rc : St → Option (Ex × St)) (x0 : Int) (x1 : Int) (x2 : Int) (x3 : LI) : Fk.R0 n rc ((St.mk [(.int .i64 x0), (.int .i64 x1), (.int .i64 x2), (.rints .i64 x3)] [])) = Fk.l2_0.r Fk.l2_0.k0 Fk.l2_0.k1 n (fun y0 y1 y2 y3 => rc ((St.mk [(.int .i64 y0), (.int .i64 y1), (.int .i64 y2), (.rints .i64 y3)] []))) x0 x1 x2 x3 := by kernel_rfl
theorem Fk.l2_0.loop' (n : Nat) : ∀ (m : Nat) (t : (Int × (Int × (Int × LI)))), loopOf (Fk.R0 n) m (Fk.l2_0.shape t) = Fk.l2_0.g Fk.l2_0.k0 Fk.l2_0.k1 n m t.1 t.2.1 t.2.2.1 t.2.2.2 :=
  loop_of_round (shape := Fk.l2_0.shape) (body := Fk.R0 n) (g := fun m t => Fk.l2_0.g Fk.l2_0.k0 Fk.l2_0.k1 n m t.1 t.2.1 t.2.2.1 t.2.2.2) (fun t => rfl)
    fun m t ih => (Fk.l2_0.round n (loopOf (Fk.R0 n) m) t.1 t.2.1 t.2.2.1 t.2.2.2).trans (congrFun (congrFun (congrFun (congrFun (congrArg (Fk.l2_0.r Fk.l2_0.k0 Fk.l2_0.k1 n) (funext fun y0 => funext fun y1 => funext fun y2 => funext fun y3 => ih (y0, y1, y2, y3))) t.1) t.2.1) t.2.2.1) t.2.2.2)
theorem Fk.l2_0.loop (n m : Nat) (t : (Int × (Int × (Int × LI)))) : loopOf (Fk.R0 n) m (Fk.l2_0.shape t) = (Fk.l2_0.m n m t).map Fk.l2_0.res :=
  (Fk.l2_0.loop' n m t).trans (Fk.l2_0.gmap Fk.l2_0.res (fun a0 => (.inl a0)) (.inr ()) n m t.1 t.2.1 t.2.2.1 t.2.2.2)
theorem Fk.gmap {α β : Type} (h : β → α) (mk0 : Int → β) (n : Nat) (a0 : LI) (a1 : Int) : Fk.g (fun a0 => (h (mk0 a0))) n a0 a1 = (Fk.g mk0 n a0 a1).map h := by
  unfold Fk.g
  exact (bindO_map fun r2 => match r2 with | (.inl r2) => rfl | (.inr r2) => rfl)
theorem Fk.run (n : Nat) (a0 : LI) (a1 : Int) : runF (Fk.C n) (Fk.A n) n Tryd.f52 [(.rints .i64 a0), (.int .i64 a1)] [] (fun v o => some (v, o)) = Fk.g (fun a0 => (((.int .i64 a0), []) : AV × Blks)) n a0 a1 := by kernel_rfl
theorem Fk.call (hmix : Tryd.prog.follows .mixedOrders = true) (n : Nat) (t : (LI × Int)) (u) (h : Fk.m n t = some u) : FnC Tryd.prog kecG 52 (Fk.shape t).1 (Fk.shape t).2 (Fk.res u).1 (Fk.res u).2 :=
  fnC1 (C := Fk.C n) (A := Fk.A n) (fn := Tryd.f52) rfl .nil hmix Tryd.func52 (by kernel_rfl) (lp := [Fk.b0]) (by kernel_rfl) (.cons (show (Fk.A n).loop (key Fk.b0) = some (.mk' Fk.l2_0.pat (Fk.l2_0.m n n) Fk.l2_0.resK) by kernel_rfl) (LoopS.of (res := Fk.l2_0.res) (fun R u K => by rcases u with u | u <;> rfl) Fk.l2_0.pat_shape fun t => Fk.l2_0.loop n n t)
  .nil)
  (nj rfl) (by decide) rfl rfl (by show 2 ≤ Tryd.f52.ntmps; decide) (Fk.run n t.1 t.2) (Fk.gmap Fk.res (fun a0 => a0) n t.1 t.2) h
theorem Fk.s (hmix : Tryd.prog.follows .mixedOrders = true) (n : Nat) : CalleeS Tryd.prog kecG 52 (Fk.c n) :=
  .mk1 (res := Fk.res) (shape := Fk.shape) (fun R u K => rfl) (fun _ _ _ h => by unfold Fk.pat at h; split at h <;> cases h; rfl) (fun t u h => Fk.call hmix n t u h) Tryd.func52 (by decide) (by kernel_rfl)
end
section
theorem Fe.gmap {α β : Type} (h : β → α) (mk0 : Bool → β) (n : Nat) (a0 : LI) (a1 : Int) : Fe.g (fun a0 => (h (mk0 a0))) n a0 a1 = (Fe.g mk0 n a0 a1).map h := by
  unfold Fe.g
  exact (bindO_map fun r2 => rfl)
theorem Fe.run (n : Nat) (a0 : LI) (a1 : Int) : runF (Fe.C n) (Fe.A n) n Tryd.f37 [(.rints .i64 a0), (.int .i64 a1)] [] (fun v o => some (v, o)) = Fe.g (fun a0 => (((.bool a0), []) : AV × Blks)) n a0 a1 := by kernel_rfl
theorem Fe.call (hmix : Tryd.prog.follows .mixedOrders = true) (n : Nat) (t : (LI × Int)) (u) (h : Fe.m n t = some u) : FnC Tryd.prog kecG 37 (Fe.shape t).1 (Fe.shape t).2 (Fe.res u).1 (Fe.res u).2 :=
  fnC1 (C := Fe.C n) (A := Fe.A n) (fn := Tryd.f37) rfl (.cons (Fk.s hmix n) .nil) hmix Tryd.func37 (by kernel_rfl) (lp := []) (by kernel_rfl) .nil
  (nj rfl) (by decide) rfl rfl (by show 2 ≤ Tryd.f37.ntmps; decide) (Fe.run n t.1 t.2) (Fe.gmap Fe.res (fun a0 => a0) n t.1 t.2) h
theorem Fe.s (hmix : Tryd.prog.follows .mixedOrders = true) (n : Nat) : CalleeS Tryd.prog kecG 37 (Fe.c n) :=
  .mk1 (res := Fe.res) (shape := Fe.shape) (fun R u K => rfl) (fun _ _ _ h => by unfold Fe.pat at h; split at h <;> cases h; rfl) (fun t u h => Fe.call hmix n t u h) Tryd.func37 (by decide) (by kernel_rfl)
end
section
theorem Fi.gmap {α β : Type} (h : β → α) (mk0 : Bool → β) (n : Nat) (a0_0 : Int) (a0_1 : Int) (a0_2 : LI) (a0_3 : LI) (a0_4 : LI) (a0_5 : LI) (a0_6 : Int) : Fi.g (fun a0 => (h (mk0 a0))) n a0_0 a0_1 a0_2 a0_3 a0_4 a0_5 a0_6 = (Fi.g mk0 n a0_0 a0_1 a0_2 a0_3 a0_4 a0_5 a0_6).map h := by
  unfold Fi.g
  exact (ite_map rfl rfl)
theorem Fi.run (n : Nat) (a0_0 : Int) (a0_1 : Int) (a0_2 : LI) (a0_3 : LI) (a0_4 : LI) (a0_5 : LI) (a0_6 : Int) : runF (Fi.C n) (Fi.A n) n Tryd.f54 [(.agg [(.int .u8 a0_0), (.int .i64 a0_1), (.ints .u8 20 a0_2), (.ints .u64 4 a0_3), (.ints .u64 4 a0_4), (.rints .u8 a0_5), (.int .u16 a0_6)])] [] (fun v o => some (v, o)) = Fi.g (fun a0 => (((.bool a0), []) : AV × Blks)) n a0_0 a0_1 a0_2 a0_3 a0_4 a0_5 a0_6 := by kernel_rfl
theorem Fi.call (hmix : Tryd.prog.follows .mixedOrders = true) (n : Nat) (t : Ty16) (u) (h : Fi.m n t = some u) : FnC Tryd.prog kecG 54 (Fi.shape t).1 (Fi.shape t).2 (Fi.res u).1 (Fi.res u).2 :=
  fnC1 (C := Fi.C n) (A := Fi.A n) (fn := Tryd.f54) rfl .nil hmix Tryd.func54 (by kernel_rfl) (lp := []) (by kernel_rfl) .nil
  (nj rfl) (by decide) rfl rfl (by show 1 ≤ Tryd.f54.ntmps; decide) (Fi.run n t.1 t.2.1 t.2.2.1 t.2.2.2.1 t.w.1 t.w.2.1 t.w.2.2) (Fi.gmap Fi.res (fun a0 => a0) n t.1 t.2.1 t.2.2.1 t.2.2.2.1 t.w.1 t.w.2.1 t.w.2.2) h
theorem Fi.s (hmix : Tryd.prog.follows .mixedOrders = true) (n : Nat) : CalleeS Tryd.prog kecG 54 (Fi.c n) :=
  .mk1 (res := Fi.res) (shape := Fi.shape) (fun R u K => rfl) (fun _ _ _ h => by unfold Fi.pat at h; split at h <;> cases h; rfl) (fun t u h => Fi.call hmix n t u h) Tryd.func54 (by decide) (by kernel_rfl)
end
