/- A part of the proof of one statement: an abstract machine for the model, proved sound; equations of the functions over it; what they reckon. -/
import Derived.Test.YtjdknnlhhenpnaaGreatDoorEqsA
set_option linter.unusedVariables false
set_option linter.unusedSimpArgs false
namespace Go.Proofs.YtjdknnlhhenpnaaGreatDoor
open Go Go.Abs
noncomputable section
abbrev slices_IndexFunc_of_api_Bind_L1_t := St → PV → PV → Int → Int → St → Rs
def slices_IndexFunc_of_api_Bind_L1 (tr : Bool) (S0 : St) (s2 f2 : PV) (y y2 : Int) (S : St) : Rs := lAt P (T tr) 100 Tryz.f100 [1, 0, 1, 4] S0 ⟨E 19 [(0, .v s2 none), (1, .v f2 none), (7, .v (.int .i64 y) none), (8, .v (.int .i64 y2) none)], []⟩ S
def slices_IndexFunc_of_api_Bind_L1_b (tr : Bool) (C : CallF) (L1 : slices_IndexFunc_of_api_Bind_L1_t) (S0 : St) (s2 f2 : PV) (y y2 : Int) (S : St) : Rs :=
  if (decide (y2 < y)) then
    (iadr 3 s2 y2).bind fun y3 =>
    (ldP (some S) true 3 y3).bind fun y4 =>
    (callV C f2 [y4] S).bind fun r_ =>
    (Abs.asBool r_.1).bind fun y5 =>
    if y5 then
      some (fin tr S0 (.int .i64 y2) r_.2)
    else
      L1 S0 s2 f2 y (IntKind.wrap .i64 (y2 + 1)) r_.2
  else
    some (fin tr S0 (.int .i64 (-1)) S)
theorem slices_IndexFunc_of_api_Bind_L1_of {tr S0 s2 f2 y y2 S} : Lf (slices_IndexFunc_of_api_Bind_L1_b tr (R tr) (slices_IndexFunc_of_api_Bind_L1 tr) S0 s2 f2 y y2 S) (slices_IndexFunc_of_api_Bind_L1 tr S0 s2 f2 y y2 S) := lfL (by kernel_rfl)
def slices_IndexFunc_of_api_Bind_b (tr : Bool) (C : CallF) (L1 : slices_IndexFunc_of_api_Bind_L1_t) (S0 : St) (s f : PV) : Rs :=
  (lenSl s).bind fun n =>
  L1 S0 s f n 0 S0
theorem slices_IndexFunc_of_api_Bind_of {tr S0 s f} : Lf (slices_IndexFunc_of_api_Bind_b tr (R tr) (slices_IndexFunc_of_api_Bind_L1 tr) S0 s f) (R tr n_slices_IndexFunc_of_api_Bind [s, f] S0) := lfF (fn := Tryz.f100) (by kernel_rfl) Tryz.func100 (by kernel_rfl) (by kernel_rfl)
abbrev vref06_RanksOf_L1_t := St → PV → Int → PV → Option Tk → Int → Toks → St → Rs
def vref06_RanksOf_L1 (tr : Bool) (S0 : St) (y : PV) (y2 : Int) (out : PV) (k : Option Tk) (y3 : Int) (ts : Toks) (S : St) : Rs := lAt P (T tr) 101 Tryz.f101 [1, 1, 0, 1, 4] S0 ⟨E 19 [(3, .v out k), (6, .v y none), (7, .v (.int .i64 y2) none), (8, .v (.int .i64 y3) none)], ts⟩ S
def vref06_RanksOf_L1_b (tr : Bool) (C : CallF) (L1 : vref06_RanksOf_L1_t) (S0 : St) (y : PV) (y2 : Int) (out : PV) (k : Option Tk) (y3 : Int) (ts : Toks) (S : St) : Rs :=
  if (decide (y3 < y2)) then
    (iadr 2 y y3).bind fun y4 =>
    (ldP (some S) true 2 y4).bind fun y5 =>
    (chk (y5.okCells 2)).bind fun _ =>
    (chk ((y5.cell 1).okCells 1)).bind fun _ =>
    (appendT P 26 ts S.htoks (.v out k) (.sl none 1 [((y5.cell 1).cell 0)])).bind fun r_ =>
    L1 S0 y y2 r_.1 r_.2.1 (IntKind.wrap .i64 (y3 + 1)) r_.2.2.1 (S.ht r_.2.2.2)
  else
    some (fin tr S0 out S)
theorem vref06_RanksOf_L1_of {tr S0 y y2 out k y3 ts S} : Lf (vref06_RanksOf_L1_b tr (R tr) (vref06_RanksOf_L1 tr) S0 y y2 out k y3 ts S) (vref06_RanksOf_L1 tr S0 y y2 out k y3 ts S) := lfL (by kernel_rfl)
def vref06_RanksOf_b (tr : Bool) (C : CallF) (L1 : vref06_RanksOf_L1_t) (S0 : St) (syms : PV) : Rs :=
  (lenSl syms).bind fun n =>
  L1 S0 syms n (.snil) none 0 ([]) S0
theorem vref06_RanksOf_of {tr S0 syms} : Lf (vref06_RanksOf_b tr (R tr) (vref06_RanksOf_L1 tr) S0 syms) (R tr n_vref06_RanksOf [syms] S0) := lfF (fn := Tryz.f101) (by kernel_rfl) Tryz.func101 (by kernel_rfl) (by kernel_rfl)
abbrev vref01_Nodes_L1_t := St → Int → PV → Int → Int → St → Rs
def vref01_Nodes_L1 (tr : Bool) (S0 : St) (most2 : Int) (s : PV) (n i : Int) (S : St) : Rs := lAt P (T tr) 102 Tryz.f102 [1, 1, 0, 1, 4] S0 ⟨E 31 [(1, .v (.int .i64 most2) none), (2, .box [(s, none)]), (5, .v (.int .i64 n) none), (6, .v (.int .i64 i) none)], []⟩ S
abbrev vref01_Nodes_J1_t := St → Int → PV → Int → Int → Bool → St → Rs
def vref01_Nodes_J1 (tr : Bool) (S0 : St) (most3 : Int) (s2 : PV) (n3 i2 : Int) (y : Bool) (S : St) : Rs := jAt P (T tr) 102 Tryz.f102 [1, 1, 0, 1, 4, 5, 0, 1] S0 ⟨E 31 [(1, .v (.int .i64 most3) none), (2, .box [(s2, none)]), (5, .v (.int .i64 n3) none), (6, .v (.int .i64 i2) none), (16, .v (.bool y) none)], []⟩ S
def vref01_Nodes_L1_b (tr : Bool) (C : CallF) (J1 : vref01_Nodes_J1_t) (S0 : St) (most2 : Int) (s : PV) (n i : Int) (S : St) : Rs :=
  (lenSl s).bind fun n2 =>
  if (decide (i < n2)) then
    J1 S0 most2 s n i (decide (n ≤ most2)) S
  else
    J1 S0 most2 s n i false S
theorem vref01_Nodes_L1_of {tr S0 most2 s n i S} : Lf (vref01_Nodes_L1_b tr (R tr) (vref01_Nodes_J1 tr) S0 most2 s n i S) (vref01_Nodes_L1 tr S0 most2 s n i S) := lfL (by kernel_rfl)
def vref01_Nodes_J1_b (tr : Bool) (C : CallF) (L1 : vref01_Nodes_L1_t) (S0 : St) (most3 : Int) (s2 : PV) (n3 i2 : Int) (y : Bool) (S : St) : Rs :=
  if y then
    (iadr 1 s2 i2).bind fun y2 =>
    (ldP (some S) true 1 y2).bind fun y3 =>
    (C n_vref01_Nodes [y3, (.int .i64 (IntKind.wrap .i64 (most3 - n3)))] S).bind fun r_ =>
    (intOf .i64 r_.1).bind fun y4 =>
    L1 S0 most3 s2 (IntKind.wrap .i64 (n3 + y4)) (IntKind.wrap .i64 (i2 + 1)) r_.2
  else
    some (fin tr S0 (.int .i64 n3) S)
theorem vref01_Nodes_J1_of {tr S0 most3 s2 n3 i2 y S} : Lf (vref01_Nodes_J1_b tr (R tr) (vref01_Nodes_L1 tr) S0 most3 s2 n3 i2 y S) (vref01_Nodes_J1 tr S0 most3 s2 n3 i2 y S) := lfJ (by kernel_rfl)
def vref01_Nodes_b (tr : Bool) (C : CallF) (L1 : vref01_Nodes_L1_t) (S0 : St) (s_Args : PV) (most : Int) : Rs :=
  L1 S0 most s_Args 1 0 S0
theorem vref01_Nodes_of {tr S0 s_Args most} : Lf (vref01_Nodes_b tr (R tr) (vref01_Nodes_L1 tr) S0 s_Args most) (R tr n_vref01_Nodes [(.agg [s_Args]), (.int .i64 most)] S0) := lfF (fn := Tryz.f102) (by kernel_rfl) Tryz.func102 (by kernel_rfl) (by kernel_rfl)
abbrev vref01_depth_L1_t := St → PV → Int → Int → Int → St → Rs
def vref01_depth_L1 (tr : Bool) (S0 : St) (y : PV) (y2 d y3 : Int) (S : St) : Rs := lAt P (T tr) 103 Tryz.f103 [1, 1, 0, 1, 4] S0 ⟨E 20 [(3, .v (.int .i64 d) none), (7, .v y none), (8, .v (.int .i64 y2) none), (9, .v (.int .i64 y3) none)], []⟩ S
def vref01_depth_L1_b (tr : Bool) (C : CallF) (L1 : vref01_depth_L1_t) (S0 : St) (y : PV) (y2 d y3 : Int) (S : St) : Rs :=
  if (decide (y3 < y2)) then
    (iadr 1 y y3).bind fun y4 =>
    (ldP (some S) true 1 y4).bind fun y5 =>
    (chk (y5.okCells 1)).bind fun _ =>
    (C n_vref01_depth [(.agg [(y5.cell 0)])] S).bind fun r_ =>
    (intOf .i64 r_.1).bind fun y6 =>
    L1 S0 y y2 (maxI d y6) (IntKind.wrap .i64 (y3 + 1)) r_.2
  else
    some (fin tr S0 (.int .i64 (IntKind.wrap .i64 (d + 1))) S)
theorem vref01_depth_L1_of {tr S0 y y2 d y3 S} : Lf (vref01_depth_L1_b tr (R tr) (vref01_depth_L1 tr) S0 y y2 d y3 S) (vref01_depth_L1 tr S0 y y2 d y3 S) := lfL (by kernel_rfl)
def vref01_depth_b (tr : Bool) (C : CallF) (L1 : vref01_depth_L1_t) (S0 : St) (s_Args : PV) : Rs :=
  (lenSl s_Args).bind fun n =>
  L1 S0 s_Args n 0 0 S0
theorem vref01_depth_of {tr S0 s_Args} : Lf (vref01_depth_b tr (R tr) (vref01_depth_L1 tr) S0 s_Args) (R tr n_vref01_depth [(.agg [s_Args])] S0) := lfF (fn := Tryz.f103) (by kernel_rfl) Tryz.func103 (by kernel_rfl) (by kernel_rfl)
abbrev vref01_few_L1_t := St → PV → Int → Int → St → Rs
def vref01_few_L1 (tr : Bool) (S0 : St) (s : PV) (y y2 : Int) (S : St) : Rs := lAt P (T tr) 104 Tryz.f104 [1, 0, 1, 4] S0 ⟨E 20 [(1, .box [(s, none)]), (6, .v s none), (7, .v (.int .i64 y) none), (8, .v (.int .i64 y2) none)], []⟩ S
def vref01_few_L1_b (tr : Bool) (C : CallF) (L1 : vref01_few_L1_t) (S0 : St) (s : PV) (y y2 : Int) (S : St) : Rs :=
  if (decide (y2 < y)) then
    (iadr 1 s y2).bind fun y3 =>
    (ldP (some S) true 1 y3).bind fun y4 =>
    (chk (y4.okCells 1)).bind fun _ =>
    (C n_vref01_few [(.agg [(y4.cell 0)])] S).bind fun r_ =>
    (Abs.asBool r_.1).bind fun y5 =>
    if (!y5) then
      some (fin tr S0 (.bool false) r_.2)
    else
      L1 S0 s y (IntKind.wrap .i64 (y2 + 1)) r_.2
  else
    (lenSl s).bind fun n2 =>
    some (fin tr S0 (.bool (decide (n2 ≤ 8))) S)
theorem vref01_few_L1_of {tr S0 s y y2 S} : Lf (vref01_few_L1_b tr (R tr) (vref01_few_L1 tr) S0 s y y2 S) (vref01_few_L1 tr S0 s y y2 S) := lfL (by kernel_rfl)
def vref01_few_b (tr : Bool) (C : CallF) (L1 : vref01_few_L1_t) (S0 : St) (s_Args : PV) : Rs :=
  (lenSl s_Args).bind fun n =>
  L1 S0 s_Args n 0 S0
theorem vref01_few_of {tr S0 s_Args} : Lf (vref01_few_b tr (R tr) (vref01_few_L1 tr) S0 s_Args) (R tr n_vref01_few [(.agg [s_Args])] S0) := lfF (fn := Tryz.f104) (by kernel_rfl) Tryz.func104 (by kernel_rfl) (by kernel_rfl)
abbrev vref12_Rising_L1_t := St → Int → PV → PV → Int → Int → St → Rs
def vref12_Rising_L1 (tr : Bool) (S0 : St) (states2 : Int) (l2 s : PV) (y y2 : Int) (S : St) : Rs := lAt P (T tr) 105 Tryz.f105 [1, 0, 1, 4] S0 ⟨E 36 [(1, .v (.int .i64 states2) none), (2, .v l2 none), (3, .box [(s, none)]), (9, .v l2 none), (10, .v (.int .i64 y) none), (11, .v (.int .i64 y2) none)], []⟩ S
abbrev vref12_Rising_J1_t := St → Int → PV → PV → Int → Int → Bool → St → Rs
def vref12_Rising_J1 (tr : Bool) (S0 : St) (states3 : Int) (l3 s2 : PV) (y9 y10 : Int) (y11 : Bool) (S : St) : Rs := jAt P (T tr) 105 Tryz.f105 [1, 0, 1, 4, 5, 1, 1, 0, 4, 1, 1] S0 ⟨E 36 [(1, .v (.int .i64 states3) none), (2, .v l3 none), (3, .box [(s2, none)]), (9, .v l3 none), (10, .v (.int .i64 y9) none), (11, .v (.int .i64 y10) none), (34, .v (.bool y11) none)], []⟩ S
def vref12_Rising_L1_b (tr : Bool) (C : CallF) (J1 : vref12_Rising_J1_t) (S0 : St) (states2 : Int) (l2 s : PV) (y y2 : Int) (S : St) : Rs :=
  if (decide (y2 < y)) then
    (iadr 2 l2 y2).bind fun y3 =>
    (ldP (some S) true 2 y3).bind fun y4 =>
    (chk (y4.okCells 2)).bind fun _ =>
    (C n_vref12_shaped [(.agg [s]), (.int .i64 states2), (.agg [(y4.cell 0), (y4.cell 1)])] S).bind fun r_ =>
    (Abs.asBool r_.1).bind fun y5 =>
    if (!y5) then
      J1 S0 states2 l2 s y y2 true r_.2
    else
      if (decide (y2 > 0)) then
        (iadr 2 l2 (IntKind.wrap .i64 (y2 - 1))).bind fun y6 =>
        (ldP (some r_.2) true 2 y6).bind fun y7 =>
        (C n_vref12_Before [y7, (.agg [(y4.cell 0), (y4.cell 1)])] r_.2).bind fun r_2 =>
        (intOf .i64 r_2.1).bind fun y8 =>
        J1 S0 states2 l2 s y y2 (decide (y8 ≥ 0)) r_2.2
      else
        J1 S0 states2 l2 s y y2 false r_.2
  else
    some (fin tr S0 (.bool true) S)
theorem vref12_Rising_L1_of {tr S0 states2 l2 s y y2 S} : Lf (vref12_Rising_L1_b tr (R tr) (vref12_Rising_J1 tr) S0 states2 l2 s y y2 S) (vref12_Rising_L1 tr S0 states2 l2 s y y2 S) := lfL (by kernel_rfl)
def vref12_Rising_J1_b (tr : Bool) (C : CallF) (L1 : vref12_Rising_L1_t) (S0 : St) (states3 : Int) (l3 s2 : PV) (y9 y10 : Int) (y11 : Bool) (S : St) : Rs :=
  if y11 then
    some (fin tr S0 (.bool false) S)
  else
    L1 S0 states3 l3 s2 y9 (IntKind.wrap .i64 (y10 + 1)) S
theorem vref12_Rising_J1_of {tr S0 states3 l3 s2 y9 y10 y11 S} : Lf (vref12_Rising_J1_b tr (R tr) (vref12_Rising_L1 tr) S0 states3 l3 s2 y9 y10 y11 S) (vref12_Rising_J1 tr S0 states3 l3 s2 y9 y10 y11 S) := lfJ (by kernel_rfl)
def vref12_Rising_b (tr : Bool) (C : CallF) (L1 : vref12_Rising_L1_t) (S0 : St) (s_Args : PV) (states : Int) (l : PV) : Rs :=
  (lenSl l).bind fun n =>
  L1 S0 states l s_Args n 0 S0
theorem vref12_Rising_of {tr S0 s_Args states l} : Lf (vref12_Rising_b tr (R tr) (vref12_Rising_L1 tr) S0 s_Args states l) (R tr n_vref12_Rising [(.agg [s_Args]), (.int .i64 states), l] S0) := lfF (fn := Tryz.f105) (by kernel_rfl) Tryz.func105 (by kernel_rfl) (by kernel_rfl)
abbrev scheme_Place_L1_t := St → PV → Int → PV → Option Tk → PV → Option Tk → PV → Option Tk → Int → Toks → St → Rs
def scheme_Place_L1 (tr : Bool) (S0 : St) (y : PV) (y2 : Int) (p : PV) (k : Option Tk) (p2 : PV) (k2 : Option Tk) (p3 : PV) (k3 : Option Tk) (y3 : Int) (ts : Toks) (S : St) : Rs := lAt P (T tr) 106 Tryz.f106 [1, 1, 0, 1, 4] S0 ⟨E 28 [(4, .box [(.snil, none), (.snil, none), (.snil, none)]), (5, .box [(p, k), (p2, k2), (p3, k3)]), (13, .v y none), (14, .v (.int .i64 y2) none), (15, .v (.int .i64 y3) none)], ts⟩ S
def scheme_Place_L1_b (tr : Bool) (C : CallF) (L1 : scheme_Place_L1_t) (S0 : St) (y : PV) (y2 : Int) (p : PV) (k : Option Tk) (p2 : PV) (k2 : Option Tk) (p3 : PV) (k3 : Option Tk) (y3 : Int) (ts : Toks) (S : St) : Rs :=
  if (decide (y3 < y2)) then
    (iadr 5 y y3).bind fun y4 =>
    (ldP (some S) true 5 y4).bind fun y5 =>
    (chk (y5.okCells 5)).bind fun _ =>
    (appendT P 30 ts S.htoks (.v p2 k2) (.sl none 1 [(.agg [(y5.cell 1)])])).bind fun r_ =>
    (chk (r_.1.one && true)).bind fun _ =>
    L1 S0 y y2 p k r_.1 r_.2.1 p3 k3 (IntKind.wrap .i64 (y3 + 1)) r_.2.2.1 (S.ht r_.2.2.2)
  else
    some (fin tr S0 (.agg [p, p2, p3]) S)
theorem scheme_Place_L1_of {tr S0 y y2 p k p2 k2 p3 k3 y3 ts S} : Lf (scheme_Place_L1_b tr (R tr) (scheme_Place_L1 tr) S0 y y2 p k p2 k2 p3 k3 y3 ts S) (scheme_Place_L1 tr S0 y y2 p k p2 k2 p3 k3 y3 ts S) := lfL (by kernel_rfl)
def scheme_Place_b (tr : Bool) (C : CallF) (L1 : scheme_Place_L1_t) (S0 : St) (s_Syms s_Funs params : PV) : Rs :=
  (chk (s_Syms.okCells 1)).bind fun _ =>
  (chk (params.okCells 1)).bind fun _ =>
  (lenSl s_Funs).bind fun n =>
  L1 S0 s_Funs n (s_Syms.cell 0) none (.snil) none (params.cell 0) none 0 ([]) S0
theorem scheme_Place_of {tr S0 s_Syms s_Funs params} : Lf (scheme_Place_b tr (R tr) (scheme_Place_L1 tr) S0 s_Syms s_Funs params) (R tr n_scheme_Place [(.agg [s_Syms, s_Funs]), params] S0) := lfF (fn := Tryz.f106) (by kernel_rfl) Tryz.func106 (by kernel_rfl) (by kernel_rfl)
def term_Place_Of_b (tr : Bool) (C : CallF) (S0 : St) (p_Syms p_Funs p_Params : PV) (t_Kind t_N : Int) (t_Args : PV) : Rs :=
  (C n_term_Place_sort [(.agg [p_Syms, p_Funs, p_Params]), (.agg [(.int .i64 t_Kind), (.int .i64 t_N), t_Args])] S0).bind fun r_ =>
  (chk (decide (0 < r_.1.comps.length))).bind fun _ =>
  (chk (decide (1 < r_.1.comps.length))).bind fun _ =>
  (Abs.asBool (r_.1.comps.getD 1 .undef)).bind fun y =>
  (chk ((r_.1.comps.getD 0 .undef).okCells 1)).bind fun _ =>
  some (fin tr S0 (.tup [(.agg [((r_.1.comps.getD 0 .undef).cell 0)]), (.bool y)]) r_.2)
theorem term_Place_Of_of {tr S0 p_Syms p_Funs p_Params t_Kind t_N t_Args} : Lf (term_Place_Of_b tr (R tr) S0 p_Syms p_Funs p_Params t_Kind t_N t_Args) (R tr n_term_Place_Of [(.agg [p_Syms, p_Funs, p_Params]), (.agg [(.int .i64 t_Kind), (.int .i64 t_N), t_Args])] S0) := lfF (fn := Tryz.f107) (by kernel_rfl) Tryz.func107 (by kernel_rfl) (by kernel_rfl)
abbrev inter_fits_J1_t := St → Int → PV → Int → PV → Bool → St → Rs
def inter_fits_J1 (tr : Bool) (S0 : St) (states2 : Int) (s : PV) (t : Int) (t2 : PV) (y : Bool) (S : St) : Rs := jAt P (T tr) 108 Tryz.f108 [1, 0, 1] S0 ⟨E 45 [(1, .v (.int .i64 states2) none), (3, .box [(s, none)]), (5, .box [((.int .i64 t), none), (t2, none)]), (26, .v (.bool y) none)], []⟩ S
abbrev inter_fits_L1_t := St → Int → PV → PV → Int → Int → St → Rs
def inter_fits_L1 (tr : Bool) (S0 : St) (states3 : Int) (s2 y2 : PV) (y3 y4 : Int) (S : St) : Rs := lAt P (T tr) 108 Tryz.f108 [1, 1, 0, 1, 4] S0 ⟨E 45 [(1, .v (.int .i64 states3) none), (3, .box [(s2, none)]), (28, .v y2 none), (29, .v (.int .i64 y3) none), (30, .v (.int .i64 y4) none)], []⟩ S
def inter_fits_L1_b (tr : Bool) (C : CallF) (L1 : inter_fits_L1_t) (S0 : St) (states3 : Int) (s2 y2 : PV) (y3 y4 : Int) (S : St) : Rs :=
  if (decide (y4 < y3)) then
    (iadr 1 y2 y4).bind fun y5 =>
    (ldV (some S) false 1 y5).bind fun y6 =>
    (iadr 1 s2 y4).bind fun y7 =>
    (ldP (some S) true 1 y7).bind fun y8 =>
    (C n_inter_fit [y8, (.int .i64 states3), y6.1] S).bind fun r_ =>
    (Abs.asBool r_.1).bind fun y9 =>
    if (!y9) then
      some (fin tr S0 (.bool false) r_.2)
    else
      L1 S0 states3 s2 y2 y3 (IntKind.wrap .i64 (y4 + 1)) r_.2
  else
    some (fin tr S0 (.bool true) S)
theorem inter_fits_L1_of {tr S0 states3 s2 y2 y3 y4 S} : Lf (inter_fits_L1_b tr (R tr) (inter_fits_L1 tr) S0 states3 s2 y2 y3 y4 S) (inter_fits_L1 tr S0 states3 s2 y2 y3 y4 S) := lfL (by kernel_rfl)
def inter_fits_J1_b (tr : Bool) (C : CallF) (L1 : inter_fits_L1_t) (S0 : St) (states2 : Int) (s : PV) (t : Int) (t2 : PV) (y : Bool) (S : St) : Rs :=
  if y then
    some (fin tr S0 (.bool false) S)
  else
    (lenSl t2).bind fun n3 =>
    L1 S0 states2 s t2 n3 0 S
theorem inter_fits_J1_of {tr S0 states2 s t t2 y S} : Lf (inter_fits_J1_b tr (R tr) (inter_fits_L1 tr) S0 states2 s t t2 y S) (inter_fits_J1 tr S0 states2 s t t2 y S) := lfJ (by kernel_rfl)
def inter_fits_b (tr : Bool) (C : CallF) (J1 : inter_fits_J1_t) (S0 : St) (s_Args : PV) (states t_State : Int) (t_Args : PV) : Rs :=
  if (decide (t_State < 0)) then
    J1 S0 states s_Args t_State t_Args true S0
  else
    if (decide (t_State ≥ states)) then
      J1 S0 states s_Args t_State t_Args true S0
    else
      (lenSl t_Args).bind fun n =>
      (lenSl s_Args).bind fun n2 =>
      J1 S0 states s_Args t_State t_Args (n != n2) S0
theorem inter_fits_of {tr S0 s_Args states t_State t_Args} : Lf (inter_fits_b tr (R tr) (inter_fits_J1 tr) S0 s_Args states t_State t_Args) (R tr n_inter_fits [(.agg [s_Args]), (.int .i64 states), (.agg [(.int .i64 t_State), t_Args])] S0) := lfF (fn := Tryz.f108) (by kernel_rfl) Tryz.func108 (by kernel_rfl) (by kernel_rfl)
def judge_Judge_Add_b (tr : Bool) (C : CallF) (S0 : St) (ji : Nat) (b_Fun b_Type_State : Int) (b_Type_Args : PV) : Rs :=
  (ldV (some S0) false 1 (.ref ji 3)).bind fun y =>
  (ldV (some S0) false 1 (.ref ji 3)).bind fun y2 =>
  (iadr 1 y2.1 b_Fun).bind fun y3 =>
  (ldV (some S0) false 1 y3).bind fun y4 =>
  (appendT P 73 [] S0.htoks (.v y4.1 y4.2) (.sl none 2 [(.agg [(.int .i64 b_Type_State), b_Type_Args])])).bind fun r_ =>
  (iadr 1 y.1 b_Fun).bind fun y5 =>
  (chk (r_.1.one && true)).bind fun _ =>
  (stoP r_.2.2.1 (S0.ht r_.2.2.2) false 1 y5 [(r_.1, r_.2.1)]).bind fun w =>
  some (fin tr S0 (.tup []) w.2)
theorem judge_Judge_Add_of {tr S0 ji b_Fun b_Type_State b_Type_Args} : Lf (judge_Judge_Add_b tr (R tr) S0 ji b_Fun b_Type_State b_Type_Args) (R tr n_judge_Judge_Add [(.ref ji 0), (.agg [(.int .i64 b_Fun), (.int .i64 b_Type_State), b_Type_Args])] S0) := lfF (fn := Tryz.f109) (by kernel_rfl) Tryz.func109 (by kernel_rfl) (by kernel_rfl)
def inter_Text_b (tr : Bool) (C : CallF) (S0 : St) (t_State : Int) (t_Args : PV) : Rs :=
  (C n_inter_write [(.ref S0.objs.length 0), (.agg [(.int .i64 t_State), t_Args])] (S0.newBld 213 5)).bind fun r_ =>
  (C n_strings_Builder_String [(.ref S0.objs.length 0)] r_.2).bind fun r_2 =>
  (strOf r_2.1).bind fun y =>
  some (fin tr S0 (.str y) r_2.2)
theorem inter_Text_of {tr S0 t_State t_Args} : Lf (inter_Text_b tr (R tr) S0 t_State t_Args) (R tr n_inter_Text [(.agg [(.int .i64 t_State), t_Args])] S0) := lfF (fn := Tryz.f110) (by kernel_rfl) Tryz.func110 (by kernel_rfl) (by kernel_rfl)
abbrev judge_Judge_has_L1_t := St → Nat → Nat → Nat → PV → Option Tk → Int → Int → St → Rs
def judge_Judge_has_L1 (tr : Bool) (S0 : St) (id id2 id3 : Nat) (y47 : PV) (k : Option Tk) (y48 y49 : Int) (S : St) : Rs := lAt P (T tr) 111 Tryz.f111 [1, 1, 0, 1, 4] S0 ⟨E 70 [(3, .v (.ref id 0) none), (4, .v (.ref id2 0) none), (5, .v (.ref id3 0) none), (59, .v y47 k), (60, .v (.int .i64 y48) none), (61, .v (.int .i64 y49) none)], []⟩ S
def judge_Judge_has_L1_b (tr : Bool) (C : CallF) (L1 : judge_Judge_has_L1_t) (S0 : St) (id id2 id3 : Nat) (y47 : PV) (k : Option Tk) (y48 y49 : Int) (S : St) : Rs :=
  if (decide (y49 < y48)) then
    (iadr 1 y47 y49).bind fun y50 =>
    (ldV (some S) false 1 y50).bind fun y51 =>
    (C n_slices_ContainsFunc_of_api_Need [y51.1, (.fn n_judge_Judge_has_1 [(.ref id 0), (.ref id2 0), (.ref id3 0)])] S).bind fun r_3 =>
    (Abs.asBool r_3.1).bind fun y52 =>
    if (!y52) then
      some (fin tr S0 (.bool true) r_3.2)
    else
      L1 S0 id id2 id3 y47 k y48 (IntKind.wrap .i64 (y49 + 1)) r_3.2
  else
    some (fin tr S0 (.bool false) S)
theorem judge_Judge_has_L1_of {tr S0 id id2 id3 y47 k y48 y49 S} : Lf (judge_Judge_has_L1_b tr (R tr) (judge_Judge_has_L1 tr) S0 id id2 id3 y47 k y48 y49 S) (judge_Judge_has_L1 tr S0 id id2 id3 y47 k y48 y49 S) := lfL (by kernel_rfl)
def judge_Judge_has_b (tr : Bool) (C : CallF) (L1 : judge_Judge_has_L1_t) (S0 : St) (ji : Nat) (t : PV) (ty_State : Int) (ty_Args : PV) : Rs :=
  (chk (t.one && true)).bind fun _ =>
  (ldP (some (((S0.new [((.ref ji 0), none)]).new [(t, none)]).new [((.int .i64 ty_State), none), (ty_Args, none)])) false 1 (.ref (S0.new [((.ref ji 0), none)]).objs.length 0)).bind fun y =>
  (nilV y).bind fun y2 =>
  (fadrV 0 y2).bind fun y3 =>
  ((ldP (some (((S0.new [((.ref ji 0), none)]).new [(t, none)]).new [((.int .i64 ty_State), none), (ty_Args, none)])) false 1 y3).bind (intOf .i64)).bind fun y4 =>
  if (y4 == 0) then
    (ldP (some (((S0.new [((.ref ji 0), none)]).new [(t, none)]).new [((.int .i64 ty_State), none), (ty_Args, none)])) false 1 (.ref S0.objs.length 0)).bind fun y5 =>
    (ldP (some (((S0.new [((.ref ji 0), none)]).new [(t, none)]).new [((.int .i64 ty_State), none), (ty_Args, none)])) false 1 (.ref (S0.new [((.ref ji 0), none)]).objs.length 0)).bind fun y6 =>
    (ldP (some (((S0.new [((.ref ji 0), none)]).new [(t, none)]).new [((.int .i64 ty_State), none), (ty_Args, none)])) false 1 (.ref S0.objs.length 0)).bind fun y7 =>
    (nilV y7).bind fun y8 =>
    (fadrV 4 y8).bind fun y9 =>
    (ldV (some (((S0.new [((.ref ji 0), none)]).new [(t, none)]).new [((.int .i64 ty_State), none), (ty_Args, none)])) false 1 y9).bind fun y10 =>
    (ldP (some (((S0.new [((.ref ji 0), none)]).new [(t, none)]).new [((.int .i64 ty_State), none), (ty_Args, none)])) false 1 (.ref (S0.new [((.ref ji 0), none)]).objs.length 0)).bind fun y11 =>
    (nilV y11).bind fun y12 =>
    (fadrV 1 y12).bind fun y13 =>
    ((ldP (some (((S0.new [((.ref ji 0), none)]).new [(t, none)]).new [((.int .i64 ty_State), none), (ty_Args, none)])) false 1 y13).bind (intOf .i64)).bind fun y14 =>
    (iadr 1 y10.1 y14).bind fun y15 =>
    (ldV (some (((S0.new [((.ref ji 0), none)]).new [(t, none)]).new [((.int .i64 ty_State), none), (ty_Args, none)])) false 1 y15).bind fun y16 =>
    (ldP (some (((S0.new [((.ref ji 0), none)]).new [(t, none)]).new [((.int .i64 ty_State), none), (ty_Args, none)])) true 2 (.ref ((S0.new [((.ref ji 0), none)]).new [(t, none)]).objs.length 0)).bind fun y17 =>
    (C n_judge_Judge_head [y5, y6, y16.1, y17] (((S0.new [((.ref ji 0), none)]).new [(t, none)]).new [((.int .i64 ty_State), none), (ty_Args, none)])).bind fun r_ =>
    (Abs.asBool r_.1).bind fun y18 =>
    some (fin tr S0 (.bool y18) r_.2)
  else
    if (y4 == 1) then
      (ldP (some (((S0.new [((.ref ji 0), none)]).new [(t, none)]).new [((.int .i64 ty_State), none), (ty_Args, none)])) false 1 (.ref S0.objs.length 0)).bind fun y19 =>
      (ldP (some (((S0.new [((.ref ji 0), none)]).new [(t, none)]).new [((.int .i64 ty_State), none), (ty_Args, none)])) false 1 (.ref (S0.new [((.ref ji 0), none)]).objs.length 0)).bind fun y20 =>
      (ldP (some (((S0.new [((.ref ji 0), none)]).new [(t, none)]).new [((.int .i64 ty_State), none), (ty_Args, none)])) false 1 (.ref S0.objs.length 0)).bind fun y21 =>
      (nilV y21).bind fun y22 =>
      (fadrV 3 y22).bind fun y23 =>
      (ldV (some (((S0.new [((.ref ji 0), none)]).new [(t, none)]).new [((.int .i64 ty_State), none), (ty_Args, none)])) false 1 y23).bind fun y24 =>
      (ldP (some (((S0.new [((.ref ji 0), none)]).new [(t, none)]).new [((.int .i64 ty_State), none), (ty_Args, none)])) false 1 (.ref (S0.new [((.ref ji 0), none)]).objs.length 0)).bind fun y25 =>
      (nilV y25).bind fun y26 =>
      (fadrV 1 y26).bind fun y27 =>
      ((ldP (some (((S0.new [((.ref ji 0), none)]).new [(t, none)]).new [((.int .i64 ty_State), none), (ty_Args, none)])) false 1 y27).bind (intOf .i64)).bind fun y28 =>
      (iadr 1 y24.1 y28).bind fun y29 =>
      (ldV (some (((S0.new [((.ref ji 0), none)]).new [(t, none)]).new [((.int .i64 ty_State), none), (ty_Args, none)])) false 1 y29).bind fun y30 =>
      (ldP (some (((S0.new [((.ref ji 0), none)]).new [(t, none)]).new [((.int .i64 ty_State), none), (ty_Args, none)])) true 2 (.ref ((S0.new [((.ref ji 0), none)]).new [(t, none)]).objs.length 0)).bind fun y31 =>
      (C n_judge_Judge_head [y19, y20, y30.1, y31] (((S0.new [((.ref ji 0), none)]).new [(t, none)]).new [((.int .i64 ty_State), none), (ty_Args, none)])).bind fun r_2 =>
      (Abs.asBool r_2.1).bind fun y32 =>
      some (fin tr S0 (.bool y32) r_2.2)
    else
      (ldP (some (((S0.new [((.ref ji 0), none)]).new [(t, none)]).new [((.int .i64 ty_State), none), (ty_Args, none)])) false 1 (.ref S0.objs.length 0)).bind fun y33 =>
      (nilV y33).bind fun y34 =>
      (fadrV 0 y34).bind fun y35 =>
      (fadrV 2 y35).bind fun y36 =>
      (ldV (some (((S0.new [((.ref ji 0), none)]).new [(t, none)]).new [((.int .i64 ty_State), none), (ty_Args, none)])) false 1 y36).bind fun y37 =>
      ((ldP (some (((S0.new [((.ref ji 0), none)]).new [(t, none)]).new [((.int .i64 ty_State), none), (ty_Args, none)])) false 1 (.ref ((S0.new [((.ref ji 0), none)]).new [(t, none)]).objs.length 0)).bind (intOf .i64)).bind fun y38 =>
      (iadr 1 y37.1 y38).bind fun y39 =>
      (ldV (some (((S0.new [((.ref ji 0), none)]).new [(t, none)]).new [((.int .i64 ty_State), none), (ty_Args, none)])) false 1 y39).bind fun y40 =>
      (ldP (some (((S0.new [((.ref ji 0), none)]).new [(t, none)]).new [((.int .i64 ty_State), none), (ty_Args, none)])) false 1 (.ref (S0.new [((.ref ji 0), none)]).objs.length 0)).bind fun y41 =>
      (nilV y41).bind fun y42 =>
      (fadrV 1 y42).bind fun y43 =>
      ((ldP (some (((S0.new [((.ref ji 0), none)]).new [(t, none)]).new [((.int .i64 ty_State), none), (ty_Args, none)])) false 1 y43).bind (intOf .i64)).bind fun y44 =>
      (iadr 1 y40.1 y44).bind fun y45 =>
      (ldV (some (((S0.new [((.ref ji 0), none)]).new [(t, none)]).new [((.int .i64 ty_State), none), (ty_Args, none)])) false 1 y45).bind fun y46 =>
      (lenSl y46.1).bind fun n =>
      L1 S0 S0.objs.length ((S0.new [((.ref ji 0), none)]).objs.length) (((S0.new [((.ref ji 0), none)]).new [(t, none)]).objs.length) y46.1 y46.2 n 0 (((S0.new [((.ref ji 0), none)]).new [(t, none)]).new [((.int .i64 ty_State), none), (ty_Args, none)])
theorem judge_Judge_has_of {tr S0 ji t ty_State ty_Args} : Lf (judge_Judge_has_b tr (R tr) (judge_Judge_has_L1 tr) S0 ji t ty_State ty_Args) (R tr n_judge_Judge_has [(.ref ji 0), t, (.agg [(.int .i64 ty_State), ty_Args])] S0) := lfF (fn := Tryz.f111) (by kernel_rfl) Tryz.func111 (by kernel_rfl) (by kernel_rfl)
end
end Go.Proofs.YtjdknnlhhenpnaaGreatDoor
namespace Go.Proofs.YtjdknnlhhenpnaaGreatDoor
open Go Go.Abs
noncomputable section
abbrev vref02_Depth_L1_t := St → PV → Int → Int → Int → St → Rs
def vref02_Depth_L1 (tr : Bool) (S0 : St) (y : PV) (y2 d y3 : Int) (S : St) : Rs := lAt P (T tr) 112 Tryz.f112 [1, 1, 0, 1, 4] S0 ⟨E 20 [(3, .v (.int .i64 d) none), (7, .v y none), (8, .v (.int .i64 y2) none), (9, .v (.int .i64 y3) none)], []⟩ S
def vref02_Depth_L1_b (tr : Bool) (C : CallF) (L1 : vref02_Depth_L1_t) (S0 : St) (y : PV) (y2 d y3 : Int) (S : St) : Rs :=
  if (decide (y3 < y2)) then
    (iadr 3 y y3).bind fun y4 =>
    (ldP (some S) true 3 y4).bind fun y5 =>
    (chk (y5.okCells 3)).bind fun _ =>
    (C n_vref02_Depth [(.agg [(y5.cell 0), (y5.cell 1), (y5.cell 2)])] S).bind fun r_ =>
    (intOf .i64 r_.1).bind fun y6 =>
    L1 S0 y y2 (maxI d y6) (IntKind.wrap .i64 (y3 + 1)) r_.2
  else
    some (fin tr S0 (.int .i64 (IntKind.wrap .i64 (d + 1))) S)
theorem vref02_Depth_L1_of {tr S0 y y2 d y3 S} : Lf (vref02_Depth_L1_b tr (R tr) (vref02_Depth_L1 tr) S0 y y2 d y3 S) (vref02_Depth_L1 tr S0 y y2 d y3 S) := lfL (by kernel_rfl)
def vref02_Depth_b (tr : Bool) (C : CallF) (L1 : vref02_Depth_L1_t) (S0 : St) (t_Kind t_N : Int) (t_Args : PV) : Rs :=
  (lenSl t_Args).bind fun n =>
  L1 S0 t_Args n 0 0 S0
theorem vref02_Depth_of {tr S0 t_Kind t_N t_Args} : Lf (vref02_Depth_b tr (R tr) (vref02_Depth_L1 tr) S0 t_Kind t_N t_Args) (R tr n_vref02_Depth [(.agg [(.int .i64 t_Kind), (.int .i64 t_N), t_Args])] S0) := lfF (fn := Tryz.f112) (by kernel_rfl) Tryz.func112 (by kernel_rfl) (by kernel_rfl)
abbrev vref02_Of_J1_t := St → PV → PV → PV → Int → Int → PV → PV → Bool → St → Rs
def vref02_Of_J1 (tr : Bool) (S0 : St) (p p2 p3 : PV) (t t2 : Int) (t3 s : PV) (y2 : Bool) (S : St) : Rs := jAt P (T tr) 113 Tryz.f113 [1, 1, 0, 1] S0 ⟨E 65 [(2, .box [(p, none), (p2, none), (p3, none)]), (3, .box [((.int .i64 t), none), ((.int .i64 t2), none), (t3, none)]), (4, .box [(.snil, none)]), (6, .box [(s, none)]), (28, .v (.bool y2) none)], []⟩ S
abbrev vref02_Of_L1_t := St → PV → PV → PV → Int → Int → PV → PV → Int → PV → Int → St → Rs
def vref02_Of_L1 (tr : Bool) (S0 : St) (p4 p5 p6 : PV) (t4 t5 : Int) (t6 s2 : PV) (y3 : Int) (y4 : PV) (y5 : Int) (S : St) : Rs := lAt P (T tr) 113 Tryz.f113 [1, 1, 1, 0, 1, 4] S0 ⟨E 65 [(2, .box [(p4, none), (p5, none), (p6, none)]), (3, .box [((.int .i64 t4), none), ((.int .i64 t5), none), (t6, none)]), (4, .box [(y4, none)]), (6, .box [(s2, none)]), (31, .v t6 none), (32, .v (.int .i64 y3) none), (33, .v (.int .i64 y5) none)], []⟩ S
abbrev vref02_Of_J2_t := St → PV → PV → PV → Int → Int → PV → PV → PV → Int → Int → Bool → St → Rs
def vref02_Of_J2 (tr : Bool) (S0 : St) (p7 p8 p9 : PV) (t7 t8 : Int) (t9 y12 s3 : PV) (y13 y14 : Int) (y15 : Bool) (S : St) : Rs := jAt P (T tr) 113 Tryz.f113 [1, 1, 1, 0, 1, 4, 5, 1, 1, 0, 4, 1, 1, 1] S0 ⟨E 65 [(2, .box [(p7, none), (p8, none), (p9, none)]), (3, .box [((.int .i64 t7), none), ((.int .i64 t8), none), (t9, none)]), (4, .box [(y12, none)]), (6, .box [(s3, none)]), (31, .v t9 none), (32, .v (.int .i64 y13) none), (33, .v (.int .i64 y14) none), (55, .v (.bool y15) none)], []⟩ S
def vref02_Of_L1_b (tr : Bool) (C : CallF) (J2 : vref02_Of_J2_t) (S0 : St) (p4 p5 p6 : PV) (t4 t5 : Int) (t6 s2 : PV) (y3 : Int) (y4 : PV) (y5 : Int) (S : St) : Rs :=
  if (decide (y5 < y3)) then
    (iadr 3 t6 y5).bind fun y6 =>
    (ldP (some S) true 3 y6).bind fun y7 =>
    (chk (y7.okCells 3)).bind fun _ =>
    (C n_vref02_Of [(.agg [p4, p5, p6]), (.agg [(y7.cell 0), (y7.cell 1), (y7.cell 2)])] S).bind fun r_2 =>
    (chk (decide (0 < r_2.1.comps.length))).bind fun _ =>
    (chk (decide (1 < r_2.1.comps.length))).bind fun _ =>
    (Abs.asBool (r_2.1.comps.getD 1 .undef)).bind fun y8 =>
    (chk ((r_2.1.comps.getD 0 .undef).okCells 1)).bind fun _ =>
    if (!y8) then
      J2 S0 p4 p5 p6 t4 t5 t6 y4 s2 y3 y5 true r_2.2
    else
      (iadr 1 s2 y5).bind fun y9 =>
      (ldP (some r_2.2) true 1 y9).bind fun y10 =>
      (C n_vref01_Equal [(.agg [((r_2.1.comps.getD 0 .undef).cell 0)]), y10] r_2.2).bind fun r_3 =>
      (Abs.asBool r_3.1).bind fun y11 =>
      J2 S0 p4 p5 p6 t4 t5 t6 y4 s2 y3 y5 (!y11) r_3.2
  else
    (lenSl t6).bind fun n4 =>
    (slc 1 s2 (some n4) none none).bind fun y16 =>
    (chk (y16.1.okCells 1)).bind fun _ =>
    some (fin tr S0 (.tup [(.agg [(y16.1.cell 0)]), (.bool true)]) S)
theorem vref02_Of_L1_of {tr S0 p4 p5 p6 t4 t5 t6 s2 y3 y4 y5 S} : Lf (vref02_Of_L1_b tr (R tr) (vref02_Of_J2 tr) S0 p4 p5 p6 t4 t5 t6 s2 y3 y4 y5 S) (vref02_Of_L1 tr S0 p4 p5 p6 t4 t5 t6 s2 y3 y4 y5 S) := lfL (by kernel_rfl)
def vref02_Of_J2_b (tr : Bool) (C : CallF) (L1 : vref02_Of_L1_t) (S0 : St) (p7 p8 p9 : PV) (t7 t8 : Int) (t9 y12 s3 : PV) (y13 y14 : Int) (y15 : Bool) (S : St) : Rs :=
  if y15 then
    some (fin tr S0 (.tup [(.agg [.snil]), (.bool false)]) S)
  else
    L1 S0 p7 p8 p9 t7 t8 t9 s3 y13 y12 (IntKind.wrap .i64 (y14 + 1)) S
theorem vref02_Of_J2_of {tr S0 p7 p8 p9 t7 t8 t9 y12 s3 y13 y14 y15 S} : Lf (vref02_Of_J2_b tr (R tr) (vref02_Of_L1 tr) S0 p7 p8 p9 t7 t8 t9 y12 s3 y13 y14 y15 S) (vref02_Of_J2 tr S0 p7 p8 p9 t7 t8 t9 y12 s3 y13 y14 y15 S) := lfJ (by kernel_rfl)
def vref02_Of_J1_b (tr : Bool) (C : CallF) (L1 : vref02_Of_L1_t) (S0 : St) (p p2 p3 : PV) (t t2 : Int) (t3 s : PV) (y2 : Bool) (S : St) : Rs :=
  if y2 then
    some (fin tr S0 (.tup [(.agg [.snil]), (.bool false)]) S)
  else
    (lenSl t3).bind fun n3 =>
    L1 S0 p p2 p3 t t2 t3 s n3 (.snil) 0 S
theorem vref02_Of_J1_of {tr S0 p p2 p3 t t2 t3 s y2 S} : Lf (vref02_Of_J1_b tr (R tr) (vref02_Of_L1 tr) S0 p p2 p3 t t2 t3 s y2 S) (vref02_Of_J1 tr S0 p p2 p3 t t2 t3 s y2 S) := lfJ (by kernel_rfl)
def vref02_Of_b (tr : Bool) (C : CallF) (J1 : vref02_Of_J1_t) (S0 : St) (p_Syms p_Funs p_Params : PV) (t_Kind t_N : Int) (t_Args : PV) : Rs :=
  (C n_vref02_head [(.agg [p_Syms, p_Funs, p_Params]), (.agg [(.int .i64 t_Kind), (.int .i64 t_N), t_Args])] S0).bind fun r_ =>
  (chk (decide (0 < r_.1.comps.length))).bind fun _ =>
  (chk (decide (1 < r_.1.comps.length))).bind fun _ =>
  (Abs.asBool (r_.1.comps.getD 1 .undef)).bind fun y =>
  (chk ((r_.1.comps.getD 0 .undef).okCells 1)).bind fun _ =>
  if (!y) then
    J1 S0 p_Syms p_Funs p_Params t_Kind t_N t_Args ((r_.1.comps.getD 0 .undef).cell 0) true r_.2
  else
    (lenSl t_Args).bind fun n =>
    (lenSl ((r_.1.comps.getD 0 .undef).cell 0)).bind fun n2 =>
    J1 S0 p_Syms p_Funs p_Params t_Kind t_N t_Args ((r_.1.comps.getD 0 .undef).cell 0) (decide (n > n2)) r_.2
theorem vref02_Of_of {tr S0 p_Syms p_Funs p_Params t_Kind t_N t_Args} : Lf (vref02_Of_b tr (R tr) (vref02_Of_J1 tr) S0 p_Syms p_Funs p_Params t_Kind t_N t_Args) (R tr n_vref02_Of [(.agg [p_Syms, p_Funs, p_Params]), (.agg [(.int .i64 t_Kind), (.int .i64 t_N), t_Args])] S0) := lfF (fn := Tryz.f113) (by kernel_rfl) Tryz.func113 (by kernel_rfl) (by kernel_rfl)
abbrev vref12_shaped_J1_t := St → Int → PV → Int → PV → Bool → St → Rs
def vref12_shaped_J1 (tr : Bool) (S0 : St) (states2 : Int) (s : PV) (t : Int) (t2 : PV) (y : Bool) (S : St) : Rs := jAt P (T tr) 115 Tryz.f115 [1, 0, 1] S0 ⟨E 45 [(1, .v (.int .i64 states2) none), (3, .box [(s, none)]), (5, .box [((.int .i64 t), none), (t2, none)]), (26, .v (.bool y) none)], []⟩ S
abbrev vref12_shaped_L1_t := St → Int → PV → PV → Int → Int → St → Rs
def vref12_shaped_L1 (tr : Bool) (S0 : St) (states3 : Int) (s2 y2 : PV) (y3 y4 : Int) (S : St) : Rs := lAt P (T tr) 115 Tryz.f115 [1, 1, 0, 1, 4] S0 ⟨E 45 [(1, .v (.int .i64 states3) none), (3, .box [(s2, none)]), (28, .v y2 none), (29, .v (.int .i64 y3) none), (30, .v (.int .i64 y4) none)], []⟩ S
def vref12_shaped_L1_b (tr : Bool) (C : CallF) (L1 : vref12_shaped_L1_t) (S0 : St) (states3 : Int) (s2 y2 : PV) (y3 y4 : Int) (S : St) : Rs :=
  if (decide (y4 < y3)) then
    (iadr 1 y2 y4).bind fun y5 =>
    (ldV (some S) false 1 y5).bind fun y6 =>
    (iadr 1 s2 y4).bind fun y7 =>
    (ldP (some S) true 1 y7).bind fun y8 =>
    (C n_vref12_Rising [y8, (.int .i64 states3), y6.1] S).bind fun r_ =>
    (Abs.asBool r_.1).bind fun y9 =>
    if (!y9) then
      some (fin tr S0 (.bool false) r_.2)
    else
      L1 S0 states3 s2 y2 y3 (IntKind.wrap .i64 (y4 + 1)) r_.2
  else
    some (fin tr S0 (.bool true) S)
theorem vref12_shaped_L1_of {tr S0 states3 s2 y2 y3 y4 S} : Lf (vref12_shaped_L1_b tr (R tr) (vref12_shaped_L1 tr) S0 states3 s2 y2 y3 y4 S) (vref12_shaped_L1 tr S0 states3 s2 y2 y3 y4 S) := lfL (by kernel_rfl)
def vref12_shaped_J1_b (tr : Bool) (C : CallF) (L1 : vref12_shaped_L1_t) (S0 : St) (states2 : Int) (s : PV) (t : Int) (t2 : PV) (y : Bool) (S : St) : Rs :=
  if y then
    some (fin tr S0 (.bool false) S)
  else
    (lenSl t2).bind fun n3 =>
    L1 S0 states2 s t2 n3 0 S
theorem vref12_shaped_J1_of {tr S0 states2 s t t2 y S} : Lf (vref12_shaped_J1_b tr (R tr) (vref12_shaped_L1 tr) S0 states2 s t t2 y S) (vref12_shaped_J1 tr S0 states2 s t t2 y S) := lfJ (by kernel_rfl)
def vref12_shaped_b (tr : Bool) (C : CallF) (J1 : vref12_shaped_J1_t) (S0 : St) (s_Args : PV) (states t_State : Int) (t_Args : PV) : Rs :=
  if (decide (t_State < 0)) then
    J1 S0 states s_Args t_State t_Args true S0
  else
    if (decide (t_State ≥ states)) then
      J1 S0 states s_Args t_State t_Args true S0
    else
      (lenSl t_Args).bind fun n =>
      (lenSl s_Args).bind fun n2 =>
      J1 S0 states s_Args t_State t_Args (n != n2) S0
theorem vref12_shaped_of {tr S0 s_Args states t_State t_Args} : Lf (vref12_shaped_b tr (R tr) (vref12_shaped_J1 tr) S0 s_Args states t_State t_Args) (R tr n_vref12_shaped [(.agg [s_Args]), (.int .i64 states), (.agg [(.int .i64 t_State), t_Args])] S0) := lfF (fn := Tryz.f115) (by kernel_rfl) Tryz.func115 (by kernel_rfl) (by kernel_rfl)
abbrev vref06_Ranks_L1_t := St → PV → Int → Int → St → Rs
def vref06_Ranks_L1 (tr : Bool) (S0 : St) (ranks2 : PV) (y y2 : Int) (S : St) : Rs := lAt P (T tr) 117 Tryz.f117 [1, 0, 1, 4] S0 ⟨E 21 [(0, .v ranks2 none), (5, .v ranks2 none), (6, .v (.int .i64 y) none), (7, .v (.int .i64 y2) none)], []⟩ S
abbrev vref06_Ranks_J1_t := St → PV → Int → Int → Bool → St → Rs
def vref06_Ranks_J1 (tr : Bool) (S0 : St) (ranks3 : PV) (y5 y6 : Int) (y7 : Bool) (S : St) : Rs := jAt P (T tr) 117 Tryz.f117 [1, 0, 1, 4, 5, 1, 1, 0, 4, 1, 1] S0 ⟨E 21 [(0, .v ranks3 none), (5, .v ranks3 none), (6, .v (.int .i64 y5) none), (7, .v (.int .i64 y6) none), (16, .v (.bool y7) none)], []⟩ S
def vref06_Ranks_L1_b (tr : Bool) (C : CallF) (J1 : vref06_Ranks_J1_t) (S0 : St) (ranks2 : PV) (y y2 : Int) (S : St) : Rs :=
  if (decide (y2 < y)) then
    (iadr 1 ranks2 y2).bind fun y3 =>
    ((ldP (some S) false 1 y3).bind (intOf .i64)).bind fun y4 =>
    if (decide (y4 < 0)) then
      J1 S0 ranks2 y y2 true S
    else
      J1 S0 ranks2 y y2 (decide (y4 > 4)) S
  else
    (lenSl ranks2).bind fun n2 =>
    some (fin tr S0 (.bool (decide (n2 ≤ 24))) S)
theorem vref06_Ranks_L1_of {tr S0 ranks2 y y2 S} : Lf (vref06_Ranks_L1_b tr (R tr) (vref06_Ranks_J1 tr) S0 ranks2 y y2 S) (vref06_Ranks_L1 tr S0 ranks2 y y2 S) := lfL (by kernel_rfl)
def vref06_Ranks_J1_b (tr : Bool) (C : CallF) (L1 : vref06_Ranks_L1_t) (S0 : St) (ranks3 : PV) (y5 y6 : Int) (y7 : Bool) (S : St) : Rs :=
  if y7 then
    some (fin tr S0 (.bool false) S)
  else
    L1 S0 ranks3 y5 (IntKind.wrap .i64 (y6 + 1)) S
theorem vref06_Ranks_J1_of {tr S0 ranks3 y5 y6 y7 S} : Lf (vref06_Ranks_J1_b tr (R tr) (vref06_Ranks_L1 tr) S0 ranks3 y5 y6 y7 S) (vref06_Ranks_J1 tr S0 ranks3 y5 y6 y7 S) := lfJ (by kernel_rfl)
def vref06_Ranks_b (tr : Bool) (C : CallF) (L1 : vref06_Ranks_L1_t) (S0 : St) (ranks : PV) : Rs :=
  (lenSl ranks).bind fun n =>
  L1 S0 ranks n 0 S0
theorem vref06_Ranks_of {tr S0 ranks} : Lf (vref06_Ranks_b tr (R tr) (vref06_Ranks_L1 tr) S0 ranks) (R tr n_vref06_Ranks [ranks] S0) := lfF (fn := Tryz.f117) (by kernel_rfl) Tryz.func117 (by kernel_rfl) (by kernel_rfl)
abbrev vref09_alternatives_L1_t := St → PV → Int → Int → Int → Int → St → Rs
def vref09_alternatives_L1 (tr : Bool) (S0 : St) (l2 : PV) (rank2 states2 y y2 : Int) (S : St) : Rs := lAt P (T tr) 118 Tryz.f118 [1, 1, 0, 1, 4] S0 ⟨E 39 [(0, .v l2 none), (1, .v (.int .i64 rank2) none), (2, .v (.int .i64 states2) none), (12, .v l2 none), (13, .v (.int .i64 y) none), (14, .v (.int .i64 y2) none)], []⟩ S
abbrev vref09_alternatives_J1_t := St → PV → Int → Int → Int → Int → Bool → St → Rs
def vref09_alternatives_J1 (tr : Bool) (S0 : St) (l3 : PV) (rank3 states3 y9 y10 : Int) (y11 : Bool) (S : St) : Rs := jAt P (T tr) 118 Tryz.f118 [1, 1, 0, 1, 4, 5, 1, 1, 0, 4, 1, 1] S0 ⟨E 39 [(0, .v l3 none), (1, .v (.int .i64 rank3) none), (2, .v (.int .i64 states3) none), (12, .v l3 none), (13, .v (.int .i64 y9) none), (14, .v (.int .i64 y10) none), (37, .v (.bool y11) none)], []⟩ S
def vref09_alternatives_L1_b (tr : Bool) (C : CallF) (J1 : vref09_alternatives_J1_t) (S0 : St) (l2 : PV) (rank2 states2 y y2 : Int) (S : St) : Rs :=
  if (decide (y2 < y)) then
    (iadr 1 l2 y2).bind fun y3 =>
    (ldV (some S) false 1 y3).bind fun y4 =>
    (C n_vref09_alternative [y4.1, (.int .i64 rank2), (.int .i64 states2)] S).bind fun r_ =>
    (Abs.asBool r_.1).bind fun y5 =>
    if (!y5) then
      J1 S0 l2 rank2 states2 y y2 true r_.2
    else
      if (decide (y2 > 0)) then
        (iadr 1 l2 (IntKind.wrap .i64 (y2 - 1))).bind fun y6 =>
        (ldV (some r_.2) false 1 y6).bind fun y7 =>
        (C n_vref09_Compare [y7.1, y4.1] r_.2).bind fun r_2 =>
        (intOf .i64 r_2.1).bind fun y8 =>
        J1 S0 l2 rank2 states2 y y2 (decide (y8 ≥ 0)) r_2.2
      else
        J1 S0 l2 rank2 states2 y y2 false r_.2
  else
    some (fin tr S0 (.bool true) S)
theorem vref09_alternatives_L1_of {tr S0 l2 rank2 states2 y y2 S} : Lf (vref09_alternatives_L1_b tr (R tr) (vref09_alternatives_J1 tr) S0 l2 rank2 states2 y y2 S) (vref09_alternatives_L1 tr S0 l2 rank2 states2 y y2 S) := lfL (by kernel_rfl)
def vref09_alternatives_J1_b (tr : Bool) (C : CallF) (L1 : vref09_alternatives_L1_t) (S0 : St) (l3 : PV) (rank3 states3 y9 y10 : Int) (y11 : Bool) (S : St) : Rs :=
  if y11 then
    some (fin tr S0 (.bool false) S)
  else
    L1 S0 l3 rank3 states3 y9 (IntKind.wrap .i64 (y10 + 1)) S
theorem vref09_alternatives_J1_of {tr S0 l3 rank3 states3 y9 y10 y11 S} : Lf (vref09_alternatives_J1_b tr (R tr) (vref09_alternatives_L1 tr) S0 l3 rank3 states3 y9 y10 y11 S) (vref09_alternatives_J1 tr S0 l3 rank3 states3 y9 y10 y11 S) := lfJ (by kernel_rfl)
def vref09_alternatives_b (tr : Bool) (C : CallF) (L1 : vref09_alternatives_L1_t) (S0 : St) (l : PV) (rank states : Int) : Rs :=
  (lenSl l).bind fun n =>
  if (decide (n > 12)) then
    some (fin tr S0 (.bool false) S0)
  else
    (lenSl l).bind fun n2 =>
    L1 S0 l rank states n2 0 S0
theorem vref09_alternatives_of {tr S0 l rank states} : Lf (vref09_alternatives_b tr (R tr) (vref09_alternatives_L1 tr) S0 l rank states) (R tr n_vref09_alternatives [l, (.int .i64 rank), (.int .i64 states)] S0) := lfF (fn := Tryz.f118) (by kernel_rfl) Tryz.func118 (by kernel_rfl) (by kernel_rfl)
abbrev vref09_Compare_L1_t := St → PV → PV → Int → St → Rs
def vref09_Compare_L1 (tr : Bool) (S0 : St) (a2 b2 : PV) (i : Int) (S : St) : Rs := lAt P (T tr) 119 Tryz.f119 [1, 0, 1, 4] S0 ⟨E 43 [(0, .v a2 none), (1, .v b2 none), (5, .v (.int .i64 i) none)], []⟩ S
abbrev vref09_Compare_J1_t := St → PV → PV → Int → Bool → St → Rs
def vref09_Compare_J1 (tr : Bool) (S0 : St) (a3 b3 : PV) (i2 : Int) (y : Bool) (S : St) : Rs := jAt P (T tr) 119 Tryz.f119 [1, 0, 1, 4, 5, 0, 1] S0 ⟨E 43 [(0, .v a3 none), (1, .v b3 none), (5, .v (.int .i64 i2) none), (16, .v (.bool y) none)], []⟩ S
def vref09_Compare_L1_b (tr : Bool) (C : CallF) (J1 : vref09_Compare_J1_t) (S0 : St) (a2 b2 : PV) (i : Int) (S : St) : Rs :=
  (lenSl a2).bind fun n =>
  if (decide (i < n)) then
    (lenSl b2).bind fun n2 =>
    J1 S0 a2 b2 i (decide (i < n2)) S
  else
    J1 S0 a2 b2 i false S
theorem vref09_Compare_L1_of {tr S0 a2 b2 i S} : Lf (vref09_Compare_L1_b tr (R tr) (vref09_Compare_J1 tr) S0 a2 b2 i S) (vref09_Compare_L1 tr S0 a2 b2 i S) := lfL (by kernel_rfl)
def vref09_Compare_J1_b (tr : Bool) (C : CallF) (L1 : vref09_Compare_L1_t) (S0 : St) (a3 b3 : PV) (i2 : Int) (y : Bool) (S : St) : Rs :=
  if y then
    (iadr 2 a3 i2).bind fun y2 =>
    (ldP (some S) true 2 y2).bind fun y3 =>
    (iadr 2 b3 i2).bind fun y4 =>
    (ldP (some S) true 2 y4).bind fun y5 =>
    (C n_vref09_Before [y3, y5] S).bind fun r_ =>
    (intOf .i64 r_.1).bind fun y6 =>
    if (y6 != 0) then
      some (fin tr S0 (.int .i64 y6) r_.2)
    else
      L1 S0 a3 b3 (IntKind.wrap .i64 (i2 + 1)) r_.2
  else
    (lenSl a3).bind fun n3 =>
    (lenSl b3).bind fun n4 =>
    if (decide (n3 < n4)) then
      some (fin tr S0 (.int .i64 (-1)) S)
    else
      (lenSl a3).bind fun n5 =>
      (lenSl b3).bind fun n6 =>
      if (decide (n5 > n6)) then
        some (fin tr S0 (.int .i64 1) S)
      else
        some (fin tr S0 (.int .i64 0) S)
theorem vref09_Compare_J1_of {tr S0 a3 b3 i2 y S} : Lf (vref09_Compare_J1_b tr (R tr) (vref09_Compare_L1 tr) S0 a3 b3 i2 y S) (vref09_Compare_J1 tr S0 a3 b3 i2 y S) := lfJ (by kernel_rfl)
def vref09_Compare_b (tr : Bool) (C : CallF) (L1 : vref09_Compare_L1_t) (S0 : St) (a b : PV) : Rs :=
  L1 S0 a b 0 S0
theorem vref09_Compare_of {tr S0 a b} : Lf (vref09_Compare_b tr (R tr) (vref09_Compare_L1 tr) S0 a b) (R tr n_vref09_Compare [a, b] S0) := lfF (fn := Tryz.f119) (by kernel_rfl) Tryz.func119 (by kernel_rfl) (by kernel_rfl)
def inter_Size_b (tr : Bool) (C : CallF) (S0 : St) (t_State : Int) (t_Args : PV) : Rs :=
  (stoP [] (S0.new [((.int .i64 0), none)]) false 1 (.ref S0.objs.length 0) [((.int .i64 2000), none)]).bind fun w =>
  (C n_inter_measure [(.agg [(.int .i64 t_State), t_Args]), (.ref S0.objs.length 0)] w.2).bind fun r_ =>
  ((ldP (some r_.2) false 1 (.ref S0.objs.length 0)).bind (intOf .i64)).bind fun y =>
  some (fin tr S0 (.int .i64 (IntKind.wrap .i64 (2000 - (maxI y (-1))))) r_.2)
theorem inter_Size_of {tr S0 t_State t_Args} : Lf (inter_Size_b tr (R tr) S0 t_State t_Args) (R tr n_inter_Size [(.agg [(.int .i64 t_State), t_Args])] S0) := lfF (fn := Tryz.f120) (by kernel_rfl) Tryz.func120 (by kernel_rfl) (by kernel_rfl)
def inter_Strong_1_b (tr : Bool) (C : CallF) (S0 : St) (y_State : Int) (y_Args y : PV) : Rs :=
  (ldP (some S0) true 2 y).bind fun y2 =>
  (C n_inter_Strong [(.agg [(.int .i64 y_State), y_Args]), y2] S0).bind fun r_ =>
  (Abs.asBool r_.1).bind fun y3 =>
  some (fin tr S0 (.bool y3) r_.2)
theorem inter_Strong_1_of {tr S0 y_State y_Args y} : Lf (inter_Strong_1_b tr (R tr) S0 y_State y_Args y) (R tr n_inter_Strong_1 [(.agg [(.int .i64 y_State), y_Args]), y] S0) := lfF (fn := Tryz.f121) (by kernel_rfl) Tryz.func121 (by kernel_rfl) (by kernel_rfl)
abbrev term_measure_L1_t := St → PV → PV → Int → Int → Int → Toks → St → Rs
def term_measure_L1 (tr : Bool) (S0 : St) (left2 y4 : PV) (y5 depth y6 : Int) (ts : Toks) (S : St) : Rs := lAt P (T tr) 123 Tryz.f123 [1, 1, 1, 0, 1, 4] S0 ⟨E 32 [(1, .v left2 none), (5, .v (.int .i64 depth) none), (14, .v y4 none), (15, .v (.int .i64 y5) none), (16, .v (.int .i64 y6) none)], ts⟩ S
def term_measure_L1_b (tr : Bool) (C : CallF) (L1 : term_measure_L1_t) (S0 : St) (left2 y4 : PV) (y5 depth y6 : Int) (ts : Toks) (S : St) : Rs :=
  if (decide (y6 < y5)) then
    (iadr 3 y4 y6).bind fun y7 =>
    (ldP (some S) true 3 y7).bind fun y8 =>
    (chk (y8.okCells 3)).bind fun _ =>
    (nilV left2).bind fun y9 =>
    ((ldP (some S) false 1 y9).bind (intOf .i64)).bind fun y10 =>
    if (decide (y10 < 0)) then
      some (fin tr S0 (.int .i64 0) S)
    else
      (C n_term_measure [(.agg [(y8.cell 0), (y8.cell 1), (y8.cell 2)]), left2] S).bind fun r_ =>
      (intOf .i64 r_.1).bind fun y11 =>
      L1 S0 left2 y4 y5 (maxI depth y11) (IntKind.wrap .i64 (y6 + 1)) ts r_.2
  else
    some (fin tr S0 (.int .i64 (IntKind.wrap .i64 (depth + 1))) S)
theorem term_measure_L1_of {tr S0 left2 y4 y5 depth y6 ts S} : Lf (term_measure_L1_b tr (R tr) (term_measure_L1 tr) S0 left2 y4 y5 depth y6 ts S) (term_measure_L1 tr S0 left2 y4 y5 depth y6 ts S) := lfL (by kernel_rfl)
def term_measure_b (tr : Bool) (C : CallF) (L1 : term_measure_L1_t) (S0 : St) (t_Kind t_N : Int) (t_Args left : PV) : Rs :=
  (nilV left).bind fun y =>
  ((ldP (some S0) false 1 y).bind (intOf .i64)).bind fun y2 =>
  (nilV left).bind fun y3 =>
  (stoP [] S0 false 1 y3 [((.int .i64 (IntKind.wrap .i64 (y2 - 1))), none)]).bind fun w =>
  (lenSl t_Args).bind fun n =>
  L1 S0 left t_Args n 0 0 w.1 w.2
theorem term_measure_of {tr S0 t_Kind t_N t_Args left} : Lf (term_measure_b tr (R tr) (term_measure_L1 tr) S0 t_Kind t_N t_Args left) (R tr n_term_measure [(.agg [(.int .i64 t_Kind), (.int .i64 t_N), t_Args]), left] S0) := lfF (fn := Tryz.f123) (by kernel_rfl) Tryz.func123 (by kernel_rfl) (by kernel_rfl)
abbrev slices_IndexFunc_of_api_Type_L1_t := St → PV → PV → Int → Int → St → Rs
def slices_IndexFunc_of_api_Type_L1 (tr : Bool) (S0 : St) (s2 f2 : PV) (y y2 : Int) (S : St) : Rs := lAt P (T tr) 125 Tryz.f125 [1, 0, 1, 4] S0 ⟨E 19 [(0, .v s2 none), (1, .v f2 none), (7, .v (.int .i64 y) none), (8, .v (.int .i64 y2) none)], []⟩ S
def slices_IndexFunc_of_api_Type_L1_b (tr : Bool) (C : CallF) (L1 : slices_IndexFunc_of_api_Type_L1_t) (S0 : St) (s2 f2 : PV) (y y2 : Int) (S : St) : Rs :=
  if (decide (y2 < y)) then
    (iadr 2 s2 y2).bind fun y3 =>
    (ldP (some S) true 2 y3).bind fun y4 =>
    (callV C f2 [y4] S).bind fun r_ =>
    (Abs.asBool r_.1).bind fun y5 =>
    if y5 then
      some (fin tr S0 (.int .i64 y2) r_.2)
    else
      L1 S0 s2 f2 y (IntKind.wrap .i64 (y2 + 1)) r_.2
  else
    some (fin tr S0 (.int .i64 (-1)) S)
theorem slices_IndexFunc_of_api_Type_L1_of {tr S0 s2 f2 y y2 S} : Lf (slices_IndexFunc_of_api_Type_L1_b tr (R tr) (slices_IndexFunc_of_api_Type_L1 tr) S0 s2 f2 y y2 S) (slices_IndexFunc_of_api_Type_L1 tr S0 s2 f2 y y2 S) := lfL (by kernel_rfl)
def slices_IndexFunc_of_api_Type_b (tr : Bool) (C : CallF) (L1 : slices_IndexFunc_of_api_Type_L1_t) (S0 : St) (s f : PV) : Rs :=
  (lenSl s).bind fun n =>
  L1 S0 s f n 0 S0
theorem slices_IndexFunc_of_api_Type_of {tr S0 s f} : Lf (slices_IndexFunc_of_api_Type_b tr (R tr) (slices_IndexFunc_of_api_Type_L1 tr) S0 s f) (R tr n_slices_IndexFunc_of_api_Type [s, f] S0) := lfF (fn := Tryz.f125) (by kernel_rfl) Tryz.func125 (by kernel_rfl) (by kernel_rfl)
abbrev slices_CompareFunc_of_Lapi_Type_L1_t := St → PV → PV → PV → Int → Int → St → Rs
def slices_CompareFunc_of_Lapi_Type_L1 (tr : Bool) (S0 : St) (s12 s22 cmp2 : PV) (y y2 : Int) (S : St) : Rs := lAt P (T tr) 129 Tryz.f129 [1, 0, 1, 4] S0 ⟨E 39 [(0, .v s12 none), (1, .v s22 none), (2, .v cmp2 none), (11, .v s12 none), (12, .v (.int .i64 y) none), (13, .v (.int .i64 y2) none)], []⟩ S
def slices_CompareFunc_of_Lapi_Type_L1_b (tr : Bool) (C : CallF) (L1 : slices_CompareFunc_of_Lapi_Type_L1_t) (S0 : St) (s12 s22 cmp2 : PV) (y y2 : Int) (S : St) : Rs :=
  if (decide (y2 < y)) then
    (iadr 1 s12 y2).bind fun y3 =>
    (ldV (some S) false 1 y3).bind fun y4 =>
    (lenSl s22).bind fun n2 =>
    if (decide (y2 ≥ n2)) then
      some (fin tr S0 (.int .i64 1) S)
    else
      (iadr 1 s22 y2).bind fun y5 =>
      (ldV (some S) false 1 y5).bind fun y6 =>
      (callV C cmp2 [y4.1, y6.1] S).bind fun r_ =>
      (intOf .i64 r_.1).bind fun y7 =>
      if (y7 != 0) then
        some (fin tr S0 (.int .i64 y7) r_.2)
      else
        L1 S0 s12 s22 cmp2 y (IntKind.wrap .i64 (y2 + 1)) r_.2
  else
    (lenSl s12).bind fun n3 =>
    (lenSl s22).bind fun n4 =>
    if (decide (n3 < n4)) then
      some (fin tr S0 (.int .i64 (-1)) S)
    else
      some (fin tr S0 (.int .i64 0) S)
theorem slices_CompareFunc_of_Lapi_Type_L1_of {tr S0 s12 s22 cmp2 y y2 S} : Lf (slices_CompareFunc_of_Lapi_Type_L1_b tr (R tr) (slices_CompareFunc_of_Lapi_Type_L1 tr) S0 s12 s22 cmp2 y y2 S) (slices_CompareFunc_of_Lapi_Type_L1 tr S0 s12 s22 cmp2 y y2 S) := lfL (by kernel_rfl)
def slices_CompareFunc_of_Lapi_Type_b (tr : Bool) (C : CallF) (L1 : slices_CompareFunc_of_Lapi_Type_L1_t) (S0 : St) (s1 s2 cmp : PV) : Rs :=
  (lenSl s1).bind fun n =>
  L1 S0 s1 s2 cmp n 0 S0
theorem slices_CompareFunc_of_Lapi_Type_of {tr S0 s1 s2 cmp} : Lf (slices_CompareFunc_of_Lapi_Type_b tr (R tr) (slices_CompareFunc_of_Lapi_Type_L1 tr) S0 s1 s2 cmp) (R tr n_slices_CompareFunc_of_Lapi_Type [s1, s2, cmp] S0) := lfF (fn := Tryz.f129) (by kernel_rfl) Tryz.func129 (by kernel_rfl) (by kernel_rfl)
def inter_Order_1_b (tr : Bool) (C : CallF) (S0 : St) (x y : PV) : Rs :=
  (C n_slices_CompareFunc_of_api_Type [x, y, (.fn n_inter_Order [])] S0).bind fun r_ =>
  (intOf .i64 r_.1).bind fun y2 =>
  some (fin tr S0 (.int .i64 y2) r_.2)
theorem inter_Order_1_of {tr S0 x y} : Lf (inter_Order_1_b tr (R tr) S0 x y) (R tr n_inter_Order_1 [x, y] S0) := lfF (fn := Tryz.f130) (by kernel_rfl) Tryz.func130 (by kernel_rfl) (by kernel_rfl)
end
end Go.Proofs.YtjdknnlhhenpnaaGreatDoor
namespace Go.Proofs.YtjdknnlhhenpnaaGreatDoor
open Go Go.Abs
noncomputable section
abbrev slices_CompareFunc_of_api_Type_L1_t := St → PV → PV → PV → Int → Int → St → Rs
def slices_CompareFunc_of_api_Type_L1 (tr : Bool) (S0 : St) (s12 s22 cmp2 : PV) (y y2 : Int) (S : St) : Rs := lAt P (T tr) 131 Tryz.f131 [1, 0, 1, 4] S0 ⟨E 39 [(0, .v s12 none), (1, .v s22 none), (2, .v cmp2 none), (11, .v s12 none), (12, .v (.int .i64 y) none), (13, .v (.int .i64 y2) none)], []⟩ S
def slices_CompareFunc_of_api_Type_L1_b (tr : Bool) (C : CallF) (L1 : slices_CompareFunc_of_api_Type_L1_t) (S0 : St) (s12 s22 cmp2 : PV) (y y2 : Int) (S : St) : Rs :=
  if (decide (y2 < y)) then
    (iadr 2 s12 y2).bind fun y3 =>
    (ldP (some S) true 2 y3).bind fun y4 =>
    (chk (y4.okCells 2)).bind fun _ =>
    (lenSl s22).bind fun n2 =>
    if (decide (y2 ≥ n2)) then
      some (fin tr S0 (.int .i64 1) S)
    else
      (iadr 2 s22 y2).bind fun y5 =>
      (ldP (some S) true 2 y5).bind fun y6 =>
      (chk (y6.okCells 2)).bind fun _ =>
      (callV C cmp2 [(.agg [(y4.cell 0), (y4.cell 1)]), (.agg [(y6.cell 0), (y6.cell 1)])] S).bind fun r_ =>
      (intOf .i64 r_.1).bind fun y7 =>
      if (y7 != 0) then
        some (fin tr S0 (.int .i64 y7) r_.2)
      else
        L1 S0 s12 s22 cmp2 y (IntKind.wrap .i64 (y2 + 1)) r_.2
  else
    (lenSl s12).bind fun n3 =>
    (lenSl s22).bind fun n4 =>
    if (decide (n3 < n4)) then
      some (fin tr S0 (.int .i64 (-1)) S)
    else
      some (fin tr S0 (.int .i64 0) S)
theorem slices_CompareFunc_of_api_Type_L1_of {tr S0 s12 s22 cmp2 y y2 S} : Lf (slices_CompareFunc_of_api_Type_L1_b tr (R tr) (slices_CompareFunc_of_api_Type_L1 tr) S0 s12 s22 cmp2 y y2 S) (slices_CompareFunc_of_api_Type_L1 tr S0 s12 s22 cmp2 y y2 S) := lfL (by kernel_rfl)
def slices_CompareFunc_of_api_Type_b (tr : Bool) (C : CallF) (L1 : slices_CompareFunc_of_api_Type_L1_t) (S0 : St) (s1 s2 cmp : PV) : Rs :=
  (lenSl s1).bind fun n =>
  L1 S0 s1 s2 cmp n 0 S0
theorem slices_CompareFunc_of_api_Type_of {tr S0 s1 s2 cmp} : Lf (slices_CompareFunc_of_api_Type_b tr (R tr) (slices_CompareFunc_of_api_Type_L1 tr) S0 s1 s2 cmp) (R tr n_slices_CompareFunc_of_api_Type [s1, s2, cmp] S0) := lfF (fn := Tryz.f131) (by kernel_rfl) Tryz.func131 (by kernel_rfl) (by kernel_rfl)
abbrev vref03_word_L1_t := St → ByteArray → Int → St → Rs
def vref03_word_L1 (tr : Bool) (S0 : St) (text2 : ByteArray) (at_2 : Int) (S : St) : Rs := lAt P (T tr) 135 Tryz.f135 [1, 0, 4] S0 ⟨E 42 [(0, .v (.str text2) none), (1, .v (.int .i64 at_2) none)], []⟩ S
abbrev vref03_word_J1_t := St → ByteArray → Int → Bool → St → Rs
def vref03_word_J1 (tr : Bool) (S0 : St) (text3 : ByteArray) (at_3 : Int) (y11 : Bool) (S : St) : Rs := jAt P (T tr) 135 Tryz.f135 [1, 0, 4, 5, 0, 1] S0 ⟨E 42 [(0, .v (.str text3) none), (1, .v (.int .i64 at_3) none), (38, .v (.bool y11) none)], []⟩ S
def vref03_word_L1_b (tr : Bool) (C : CallF) (J1 : vref03_word_J1_t) (S0 : St) (text2 : ByteArray) (at_2 : Int) (S : St) : Rs :=
  if (decide (at_2 < (Int.ofNat (ByteArray.size text2)))) then
    ((idx (.str text2) at_2).bind (intOf .u8)).bind fun y =>
    if (decide (y ≥ 97)) then
      ((idx (.str text2) at_2).bind (intOf .u8)).bind fun y2 =>
      if (decide (y2 ≤ 122)) then
        J1 S0 text2 at_2 true S
      else
        ((idx (.str text2) at_2).bind (intOf .u8)).bind fun y3 =>
        if (decide (y3 ≥ 48)) then
          ((idx (.str text2) at_2).bind (intOf .u8)).bind fun y4 =>
          if (decide (y4 ≤ 57)) then
            J1 S0 text2 at_2 true S
          else
            ((idx (.str text2) at_2).bind (intOf .u8)).bind fun y5 =>
            J1 S0 text2 at_2 (y5 == 95) S
        else
          ((idx (.str text2) at_2).bind (intOf .u8)).bind fun y6 =>
          J1 S0 text2 at_2 (y6 == 95) S
    else
      ((idx (.str text2) at_2).bind (intOf .u8)).bind fun y7 =>
      if (decide (y7 ≥ 48)) then
        ((idx (.str text2) at_2).bind (intOf .u8)).bind fun y8 =>
        if (decide (y8 ≤ 57)) then
          J1 S0 text2 at_2 true S
        else
          ((idx (.str text2) at_2).bind (intOf .u8)).bind fun y9 =>
          J1 S0 text2 at_2 (y9 == 95) S
      else
        ((idx (.str text2) at_2).bind (intOf .u8)).bind fun y10 =>
        J1 S0 text2 at_2 (y10 == 95) S
  else
    J1 S0 text2 at_2 false S
theorem vref03_word_L1_of {tr S0 text2 at_2 S} : Lf (vref03_word_L1_b tr (R tr) (vref03_word_J1 tr) S0 text2 at_2 S) (vref03_word_L1 tr S0 text2 at_2 S) := lfL (by kernel_rfl)
def vref03_word_J1_b (tr : Bool) (C : CallF) (L1 : vref03_word_L1_t) (S0 : St) (text3 : ByteArray) (at_3 : Int) (y11 : Bool) (S : St) : Rs :=
  if y11 then
    L1 S0 text3 (IntKind.wrap .i64 (at_3 + 1)) S
  else
    some (fin tr S0 (.int .i64 at_3) S)
theorem vref03_word_J1_of {tr S0 text3 at_3 y11 S} : Lf (vref03_word_J1_b tr (R tr) (vref03_word_L1 tr) S0 text3 at_3 y11 S) (vref03_word_J1 tr S0 text3 at_3 y11 S) := lfJ (by kernel_rfl)
def vref03_word_b (tr : Bool) (C : CallF) (L1 : vref03_word_L1_t) (S0 : St) (text : ByteArray) (at_ : Int) : Rs :=
  L1 S0 text at_ S0
theorem vref03_word_of {tr S0 text at_} : Lf (vref03_word_b tr (R tr) (vref03_word_L1 tr) S0 text at_) (R tr n_vref03_word [(.str text), (.int .i64 at_)] S0) := lfF (fn := Tryz.f135) (by kernel_rfl) Tryz.func135 (by kernel_rfl) (by kernel_rfl)
abbrev vref02_Name_J1_t := St → ByteArray → Bool → St → Rs
def vref02_Name_J1 (tr : Bool) (S0 : St) (s2 : ByteArray) (y3 : Bool) (S : St) : Rs := jAt P (T tr) 136 Tryz.f136 [1, 0, 1] S0 ⟨E 56 [(0, .v (.str s2) none), (21, .v (.bool y3) none)], []⟩ S
abbrev vref02_Name_L1_t := St → ByteArray → Int → St → Rs
def vref02_Name_L1 (tr : Bool) (S0 : St) (s3 : ByteArray) (i : Int) (S : St) : Rs := lAt P (T tr) 136 Tryz.f136 [1, 1, 0, 1, 4] S0 ⟨E 56 [(0, .v (.str s3) none), (3, .v (.int .i64 i) none)], []⟩ S
abbrev vref02_Name_J2_t := St → ByteArray → Int → Bool → St → Rs
def vref02_Name_J2 (tr : Bool) (S0 : St) (s4 : ByteArray) (i2 : Int) (y14 : Bool) (S : St) : Rs := jAt P (T tr) 136 Tryz.f136 [1, 1, 0, 1, 4, 5, 1, 0, 4, 1] S0 ⟨E 56 [(0, .v (.str s4) none), (3, .v (.int .i64 i2) none), (55, .v (.bool y14) none)], []⟩ S
def vref02_Name_L1_b (tr : Bool) (C : CallF) (J2 : vref02_Name_J2_t) (S0 : St) (s3 : ByteArray) (i : Int) (S : St) : Rs :=
  if (decide (i < (Int.ofNat (ByteArray.size s3)))) then
    ((idx (.str s3) i).bind (intOf .u8)).bind fun y4 =>
    if (decide (y4 < 97)) then
      ((idx (.str s3) i).bind (intOf .u8)).bind fun y5 =>
      if (decide (y5 < 48)) then
        ((idx (.str s3) i).bind (intOf .u8)).bind fun y6 =>
        J2 S0 s3 i (y6 != 95) S
      else
        ((idx (.str s3) i).bind (intOf .u8)).bind fun y7 =>
        if (decide (y7 > 57)) then
          ((idx (.str s3) i).bind (intOf .u8)).bind fun y8 =>
          J2 S0 s3 i (y8 != 95) S
        else
          J2 S0 s3 i false S
    else
      ((idx (.str s3) i).bind (intOf .u8)).bind fun y9 =>
      if (decide (y9 > 122)) then
        ((idx (.str s3) i).bind (intOf .u8)).bind fun y10 =>
        if (decide (y10 < 48)) then
          ((idx (.str s3) i).bind (intOf .u8)).bind fun y11 =>
          J2 S0 s3 i (y11 != 95) S
        else
          ((idx (.str s3) i).bind (intOf .u8)).bind fun y12 =>
          if (decide (y12 > 57)) then
            ((idx (.str s3) i).bind (intOf .u8)).bind fun y13 =>
            J2 S0 s3 i (y13 != 95) S
          else
            J2 S0 s3 i false S
      else
        J2 S0 s3 i false S
  else
    some (fin tr S0 (.bool true) S)
theorem vref02_Name_L1_of {tr S0 s3 i S} : Lf (vref02_Name_L1_b tr (R tr) (vref02_Name_J2 tr) S0 s3 i S) (vref02_Name_L1 tr S0 s3 i S) := lfL (by kernel_rfl)
def vref02_Name_J2_b (tr : Bool) (C : CallF) (L1 : vref02_Name_L1_t) (S0 : St) (s4 : ByteArray) (i2 : Int) (y14 : Bool) (S : St) : Rs :=
  if y14 then
    some (fin tr S0 (.bool false) S)
  else
    L1 S0 s4 (IntKind.wrap .i64 (i2 + 1)) S
theorem vref02_Name_J2_of {tr S0 s4 i2 y14 S} : Lf (vref02_Name_J2_b tr (R tr) (vref02_Name_L1 tr) S0 s4 i2 y14 S) (vref02_Name_J2 tr S0 s4 i2 y14 S) := lfJ (by kernel_rfl)
def vref02_Name_J1_b (tr : Bool) (C : CallF) (L1 : vref02_Name_L1_t) (S0 : St) (s2 : ByteArray) (y3 : Bool) (S : St) : Rs :=
  if y3 then
    some (fin tr S0 (.bool false) S)
  else
    L1 S0 s2 0 S
theorem vref02_Name_J1_of {tr S0 s2 y3 S} : Lf (vref02_Name_J1_b tr (R tr) (vref02_Name_L1 tr) S0 s2 y3 S) (vref02_Name_J1 tr S0 s2 y3 S) := lfJ (by kernel_rfl)
def vref02_Name_b (tr : Bool) (C : CallF) (J1 : vref02_Name_J1_t) (S0 : St) (s : ByteArray) : Rs :=
  if (decide ((Int.ofNat (ByteArray.size s)) < 1)) then
    J1 S0 s true S0
  else
    if (decide ((Int.ofNat (ByteArray.size s)) > 24)) then
      J1 S0 s true S0
    else
      ((idx (.str s) 0).bind (intOf .u8)).bind fun y =>
      if (decide (y < 97)) then
        J1 S0 s true S0
      else
        ((idx (.str s) 0).bind (intOf .u8)).bind fun y2 =>
        J1 S0 s (decide (y2 > 122)) S0
theorem vref02_Name_of {tr S0 s} : Lf (vref02_Name_b tr (R tr) (vref02_Name_J1 tr) S0 s) (R tr n_vref02_Name [(.str s)] S0) := lfF (fn := Tryz.f136) (by kernel_rfl) Tryz.func136 (by kernel_rfl) (by kernel_rfl)
abbrev vref03_number_L1_t := St → ByteArray → Int → Int → Int → St → Rs
def vref03_number_L1 (tr : Bool) (S0 : St) (text2 : ByteArray) (from_ at_2 n : Int) (S : St) : Rs := lAt P (T tr) 137 Tryz.f137 [1, 1, 0, 4] S0 ⟨E 63 [(0, .v (.str text2) none), (1, .v (.int .i64 at_2) none), (7, .v (.int .i64 n) none), (8, .v (.int .i64 from_) none)], []⟩ S
abbrev vref03_number_J1_t := St → ByteArray → Int → Int → Int → Bool → St → Rs
def vref03_number_J1 (tr : Bool) (S0 : St) (text3 : ByteArray) (at_3 n3 from_2 : Int) (y3 : Bool) (S : St) : Rs := jAt P (T tr) 137 Tryz.f137 [1, 1, 0, 4, 5, 0, 1] S0 ⟨E 63 [(0, .v (.str text3) none), (1, .v (.int .i64 at_3) none), (7, .v (.int .i64 n3) none), (8, .v (.int .i64 from_2) none), (31, .v (.bool y3) none)], []⟩ S
def vref03_number_L1_b (tr : Bool) (C : CallF) (J1 : vref03_number_J1_t) (S0 : St) (text2 : ByteArray) (from_ at_2 n : Int) (S : St) : Rs :=
  if (decide (at_2 < (Int.ofNat (ByteArray.size text2)))) then
    ((idx (.str text2) at_2).bind (intOf .u8)).bind fun y =>
    if (decide (y ≥ 48)) then
      ((idx (.str text2) at_2).bind (intOf .u8)).bind fun y2 =>
      if (decide (y2 ≤ 57)) then
        J1 S0 text2 at_2 n from_ (decide ((IntKind.wrap .i64 (at_2 - from_)) < 11)) S
      else
        J1 S0 text2 at_2 n from_ false S
    else
      J1 S0 text2 at_2 n from_ false S
  else
    J1 S0 text2 at_2 n from_ false S
theorem vref03_number_L1_of {tr S0 text2 from_ at_2 n S} : Lf (vref03_number_L1_b tr (R tr) (vref03_number_J1 tr) S0 text2 from_ at_2 n S) (vref03_number_L1 tr S0 text2 from_ at_2 n S) := lfL (by kernel_rfl)
def vref03_number_J1_b (tr : Bool) (C : CallF) (L1 : vref03_number_L1_t) (S0 : St) (text3 : ByteArray) (at_3 n3 from_2 : Int) (y3 : Bool) (S : St) : Rs :=
  if y3 then
    ((idx (.str text3) at_3).bind (intOf .u8)).bind fun y4 =>
    L1 S0 text3 from_2 (IntKind.wrap .i64 (at_3 + 1)) (IntKind.wrap .i64 ((IntKind.wrap .i64 (10 * n3)) + (IntKind.wrap .i64 (IntKind.wrap .u8 (y4 - 48))))) S
  else
    if (decide (at_3 > from_2)) then
      if (decide (n3 ≤ 1000000000)) then
        if (at_3 == (IntKind.wrap .i64 (from_2 + 1))) then
          some (fin tr S0 (.tup [(.int .i64 n3), (.int .i64 at_3), (.bool true)]) S)
        else
          ((idx (.str text3) from_2).bind (intOf .u8)).bind fun y5 =>
          some (fin tr S0 (.tup [(.int .i64 n3), (.int .i64 at_3), (.bool (y5 != 48))]) S)
      else
        some (fin tr S0 (.tup [(.int .i64 n3), (.int .i64 at_3), (.bool false)]) S)
    else
      some (fin tr S0 (.tup [(.int .i64 n3), (.int .i64 at_3), (.bool false)]) S)
theorem vref03_number_J1_of {tr S0 text3 at_3 n3 from_2 y3 S} : Lf (vref03_number_J1_b tr (R tr) (vref03_number_L1 tr) S0 text3 at_3 n3 from_2 y3 S) (vref03_number_J1 tr S0 text3 at_3 n3 from_2 y3 S) := lfJ (by kernel_rfl)
def vref03_number_b (tr : Bool) (C : CallF) (L1 : vref03_number_L1_t) (S0 : St) (text : ByteArray) (at_ : Int) : Rs :=
  L1 S0 text at_ at_ 0 S0
theorem vref03_number_of {tr S0 text at_} : Lf (vref03_number_b tr (R tr) (vref03_number_L1 tr) S0 text at_) (R tr n_vref03_number [(.str text), (.int .i64 at_)] S0) := lfF (fn := Tryz.f137) (by kernel_rfl) Tryz.func137 (by kernel_rfl) (by kernel_rfl)
abbrev vref01_Parse_L1_t := St → ByteArray → Int → PV → Option Tk → PV → Option Tk → Toks → St → Rs
def vref01_Parse_L1 (tr : Bool) (S0 : St) (text2 : ByteArray) (at_2 : Int) (y : PV) (k : Option Tk) (out : PV) (k2 : Option Tk) (ts : Toks) (S : St) : Rs := lAt P (T tr) 138 Tryz.f138 [1, 1, 4] S0 ⟨E 68 [(0, .v (.str text2) none), (1, .v (.int .i64 at_2) none), (4, .box [(y, k)]), (7, .box [(out, k2)])], ts⟩ S
abbrev vref01_Parse_J1_t := St → ByteArray → Int → PV → Option Tk → PV → Option Tk → PV → Int → Bool → Toks → St → Rs
def vref01_Parse_J1 (tr : Bool) (S0 : St) (text3 : ByteArray) (at_3 : Int) (y8 : PV) (k3 : Option Tk) (out2 : PV) (k4 : Option Tk) (x : PV) (next : Int) (y9 : Bool) (ts : Toks) (S : St) : Rs := jAt P (T tr) 138 Tryz.f138 [1, 1, 4, 5, 4, 1, 1, 1, 0, 1] S0 ⟨E 68 [(0, .v (.str text3) none), (1, .v (.int .i64 at_3) none), (4, .box [(y8, k3)]), (7, .box [(out2, k4)]), (8, .box [(x, none)]), (9, .v (.int .i64 next) none), (57, .v (.bool y9) none)], ts⟩ S
def vref01_Parse_L1_b (tr : Bool) (C : CallF) (J1 : vref01_Parse_J1_t) (L1 : vref01_Parse_L1_t) (S0 : St) (text2 : ByteArray) (at_2 : Int) (y : PV) (k : Option Tk) (out : PV) (k2 : Option Tk) (ts : Toks) (S : St) : Rs :=
  (C n_vref01_begins [(.str text2), (.int .i64 at_2), (.str { data := #[111] })] S).bind fun r_ =>
  (Abs.asBool r_.1).bind fun y2 =>
  if y2 then
    (C n_vref01_begins [(.str text2), (.int .i64 (IntKind.wrap .i64 (at_2 + 1))), (.str { data := #[32, 62, 32] })] r_.2).bind fun r_2 =>
    (Abs.asBool r_2.1).bind fun y3 =>
    if (!y3) then
      some (fin tr S0 (.tup [(.agg [out]), (.int .i64 (IntKind.wrap .i64 (at_2 + 1))), (.bool true)]) r_2.2)
    else
      (appendT P 30 ts r_2.2.htoks (.v out k2) (.sl none 1 [(.agg [.snil])])).bind fun r_3 =>
      (chk (r_3.1.one && true)).bind fun _ =>
      L1 S0 text2 (IntKind.wrap .i64 ((IntKind.wrap .i64 (at_2 + 1)) + 3)) y k r_3.1 r_3.2.1 r_3.2.2.1 (r_2.2.ht r_3.2.2.2)
  else
    (C n_vref01_begins [(.str text2), (.int .i64 at_2), (.str { data := #[40] })] r_.2).bind fun r_4 =>
    (Abs.asBool r_4.1).bind fun y4 =>
    if (!y4) then
      some (fin tr S0 (.tup [(.agg [out]), (.int .i64 at_2), (.bool false)]) r_4.2)
    else
      (C n_vref01_Parse [(.str text2), (.int .i64 (IntKind.wrap .i64 (at_2 + 1)))] r_4.2).bind fun r_5 =>
      (chk (decide (0 < r_5.1.comps.length))).bind fun _ =>
      (chk (decide (1 < r_5.1.comps.length))).bind fun _ =>
      (intOf .i64 (r_5.1.comps.getD 1 .undef)).bind fun y5 =>
      (chk (decide (2 < r_5.1.comps.length))).bind fun _ =>
      (Abs.asBool (r_5.1.comps.getD 2 .undef)).bind fun y6 =>
      (chk ((r_5.1.comps.getD 0 .undef).okCells 1)).bind fun _ =>
      if (!y6) then
        J1 S0 text2 at_2 y k out k2 ((r_5.1.comps.getD 0 .undef).cell 0) y5 true ts r_5.2
      else
        (lenSl ((r_5.1.comps.getD 0 .undef).cell 0)).bind fun n =>
        if (n == 0) then
          J1 S0 text2 at_2 y k out k2 ((r_5.1.comps.getD 0 .undef).cell 0) y5 true ts r_5.2
        else
          (C n_vref01_begins [(.str text2), (.int .i64 y5), (.str { data := #[41, 32, 62, 32] })] r_5.2).bind fun r_6 =>
          (Abs.asBool r_6.1).bind fun y7 =>
          J1 S0 text2 at_2 y k out k2 ((r_5.1.comps.getD 0 .undef).cell 0) y5 (!y7) ts r_6.2
theorem vref01_Parse_L1_of {tr S0 text2 at_2 y k out k2 ts S} : Lf (vref01_Parse_L1_b tr (R tr) (vref01_Parse_J1 tr) (vref01_Parse_L1 tr) S0 text2 at_2 y k out k2 ts S) (vref01_Parse_L1 tr S0 text2 at_2 y k out k2 ts S) := lfL (by kernel_rfl)
def vref01_Parse_J1_b (tr : Bool) (C : CallF) (L1 : vref01_Parse_L1_t) (S0 : St) (text3 : ByteArray) (at_3 : Int) (y8 : PV) (k3 : Option Tk) (out2 : PV) (k4 : Option Tk) (x : PV) (next : Int) (y9 : Bool) (ts : Toks) (S : St) : Rs :=
  if y9 then
    some (fin tr S0 (.tup [(.agg [out2]), (.int .i64 at_3), (.bool false)]) S)
  else
    (appendT P 30 ts S.htoks (.v out2 k4) (.sl none 1 [(.agg [x])])).bind fun r_7 =>
    (chk (r_7.1.one && true)).bind fun _ =>
    L1 S0 text3 (IntKind.wrap .i64 (next + 4)) y8 k3 r_7.1 r_7.2.1 r_7.2.2.1 (S.ht r_7.2.2.2)
theorem vref01_Parse_J1_of {tr S0 text3 at_3 y8 k3 out2 k4 x next y9 ts S} : Lf (vref01_Parse_J1_b tr (R tr) (vref01_Parse_L1 tr) S0 text3 at_3 y8 k3 out2 k4 x next y9 ts S) (vref01_Parse_J1 tr S0 text3 at_3 y8 k3 out2 k4 x next y9 ts S) := lfJ (by kernel_rfl)
def vref01_Parse_b (tr : Bool) (C : CallF) (L1 : vref01_Parse_L1_t) (S0 : St) (text : ByteArray) (at_ : Int) : Rs :=
  L1 S0 text at_ (.snil) none (.snil) none ([]) S0
theorem vref01_Parse_of {tr S0 text at_} : Lf (vref01_Parse_b tr (R tr) (vref01_Parse_L1 tr) S0 text at_) (R tr n_vref01_Parse [(.str text), (.int .i64 at_)] S0) := lfF (fn := Tryz.f138) (by kernel_rfl) Tryz.func138 (by kernel_rfl) (by kernel_rfl)
abbrev vref03_parseHead_J1_t := St → ByteArray → Int → PV → PV → Bool → Int → St → Rs
def vref03_parseHead_J1 (tr : Bool) (S0 : St) (text2 : ByteArray) (at_2 : Int) (s s2 : PV) (symbol : Bool) (kind : Int) (S : St) : Rs := jAt P (T tr) 139 Tryz.f139 [1, 1, 1, 1, 1] S0 ⟨E 53 [(1, .v (.str text2) none), (2, .v (.int .i64 at_2) none), (3, .box [(s, none), (s2, none)]), (6, .box [((.int .i64 0), none), ((.int .i64 0), none), (.snil, none)]), (12, .v (.bool symbol) none), (13, .v (.int .i64 kind) none)], []⟩ S
def vref03_parseHead_J1_b (tr : Bool) (C : CallF) (S0 : St) (text2 : ByteArray) (at_2 : Int) (s s2 : PV) (symbol : Bool) (kind : Int) (S : St) : Rs :=
  (C n_vref03_word [(.str text2), (.int .i64 at_2)] S).bind fun r_4 =>
  (intOf .i64 r_4.1).bind fun y6 =>
  ((strSlc (.str text2) (some at_2) (some y6)).bind strOf).bind fun y7 =>
  (C n_vref03_index [(.agg [s, s2]), (.bool symbol), (.str y7)] r_4.2).bind fun r_5 =>
  (intOf .i64 r_5.1).bind fun y8 =>
  some (fin tr S0 (.tup [(.agg [(.int .i64 kind), (.int .i64 y8), .snil]), (.int .i64 y6), (.bool (decide (y8 ≥ 0)))]) r_5.2)
theorem vref03_parseHead_J1_of {tr S0 text2 at_2 s s2 symbol kind S} : Lf (vref03_parseHead_J1_b tr (R tr) S0 text2 at_2 s s2 symbol kind S) (vref03_parseHead_J1 tr S0 text2 at_2 s s2 symbol kind S) := lfJ (by kernel_rfl)
def vref03_parseHead_b (tr : Bool) (C : CallF) (J1 : vref03_parseHead_J1_t) (S0 : St) (s_Syms s_Funs : PV) (text : ByteArray) (at_ : Int) : Rs :=
  (C n_vref03_begins [(.str text), (.int .i64 at_), (.str { data := #[36] })] S0).bind fun r_ =>
  (Abs.asBool r_.1).bind fun y =>
  if y then
    (C n_vref03_number [(.str text), (.int .i64 (IntKind.wrap .i64 (at_ + 1)))] r_.2).bind fun r_2 =>
    (chk (decide (0 < r_2.1.comps.length))).bind fun _ =>
    (intOf .i64 (r_2.1.comps.getD 0 .undef)).bind fun y2 =>
    (chk (decide (1 < r_2.1.comps.length))).bind fun _ =>
    (intOf .i64 (r_2.1.comps.getD 1 .undef)).bind fun y3 =>
    (chk (decide (2 < r_2.1.comps.length))).bind fun _ =>
    (Abs.asBool (r_2.1.comps.getD 2 .undef)).bind fun y4 =>
    some (fin tr S0 (.tup [(.agg [(.int .i64 0), (.int .i64 y2), .snil]), (.int .i64 y3), (.bool y4)]) r_2.2)
  else
    (C n_vref03_begins [(.str text), (.int .i64 at_), (.str { data := #[35] })] r_.2).bind fun r_3 =>
    (Abs.asBool r_3.1).bind fun y5 =>
    if y5 then
      J1 S0 text (IntKind.wrap .i64 (at_ + 1)) s_Syms s_Funs y5 2 r_3.2
    else
      J1 S0 text at_ s_Syms s_Funs y5 1 r_3.2
theorem vref03_parseHead_of {tr S0 s_Syms s_Funs text at_} : Lf (vref03_parseHead_b tr (R tr) (vref03_parseHead_J1 tr) S0 s_Syms s_Funs text at_) (R tr n_vref03_parseHead [(.agg [s_Syms, s_Funs]), (.str text), (.int .i64 at_)] S0) := lfF (fn := Tryz.f139) (by kernel_rfl) Tryz.func139 (by kernel_rfl) (by kernel_rfl)
abbrev vref02_Symbols_L1_t := St → PV → Int → Int → St → Rs
def vref02_Symbols_L1 (tr : Bool) (S0 : St) (l2 : PV) (y y2 : Int) (S : St) : Rs := lAt P (T tr) 140 Tryz.f140 [1, 1, 0, 1, 4] S0 ⟨E 46 [(0, .v l2 none), (10, .v l2 none), (11, .v (.int .i64 y) none), (12, .v (.int .i64 y2) none)], []⟩ S
abbrev vref02_Symbols_J1_t := St → PV → Int → PV → PV → Int → Bool → St → Rs
def vref02_Symbols_J1 (tr : Bool) (S0 : St) (l3 : PV) (i : Int) (x x2 : PV) (y8 : Int) (y9 : Bool) (S : St) : Rs := jAt P (T tr) 140 Tryz.f140 [1, 1, 0, 1, 4, 5, 1, 1, 0, 4, 1, 0, 1] S0 ⟨E 46 [(0, .v l3 none), (3, .v (.int .i64 i) none), (4, .box [(x, none), (x2, none)]), (10, .v l3 none), (11, .v (.int .i64 y8) none), (12, .v (.int .i64 i) none), (30, .v (.bool y9) none)], []⟩ S
abbrev vref02_Symbols_L2_t := St → PV → PV → PV → Int → Int → PV → Option Tk → Int → Int → St → Rs
def vref02_Symbols_L2 (tr : Bool) (S0 : St) (l4 x3 x4 : PV) (y11 y12 : Int) (y13 : PV) (k : Option Tk) (y14 y15 : Int) (S : St) : Rs := lAt P (T tr) 140 Tryz.f140 [1, 1, 0, 1, 4, 5, 1, 1, 0, 4, 1, 1, 1, 4] S0 ⟨E 46 [(0, .v l4 none), (4, .box [(x3, none), (x4, none)]), (10, .v l4 none), (11, .v (.int .i64 y11) none), (12, .v (.int .i64 y12) none), (33, .v y13 k), (34, .v (.int .i64 y14) none), (35, .v (.int .i64 y15) none)], []⟩ S
def vref02_Symbols_L1_b (tr : Bool) (C : CallF) (J1 : vref02_Symbols_J1_t) (S0 : St) (l2 : PV) (y y2 : Int) (S : St) : Rs :=
  if (decide (y2 < y)) then
    (iadr 2 l2 y2).bind fun y3 =>
    (ldP (some S) true 2 y3).bind fun y4 =>
    (chk (y4.okCells 2)).bind fun _ =>
    (C n_vref02_Name [(y4.cell 0)] S).bind fun r_ =>
    (Abs.asBool r_.1).bind fun y5 =>
    if (!y5) then
      J1 S0 l2 y2 (y4.cell 0) (y4.cell 1) y true r_.2
    else
      ((binA P .lss 3 (y4.cell 1) (.int .i64 0)).bind Abs.asBool).bind fun y6 =>
      if y6 then
        J1 S0 l2 y2 (y4.cell 0) (y4.cell 1) y true r_.2
      else
        ((binA P .gtr 3 (y4.cell 1) (.int .i64 4)).bind Abs.asBool).bind fun y7 =>
        J1 S0 l2 y2 (y4.cell 0) (y4.cell 1) y y7 r_.2
  else
    some (fin tr S0 (.bool true) S)
theorem vref02_Symbols_L1_of {tr S0 l2 y y2 S} : Lf (vref02_Symbols_L1_b tr (R tr) (vref02_Symbols_J1 tr) S0 l2 y y2 S) (vref02_Symbols_L1 tr S0 l2 y y2 S) := lfL (by kernel_rfl)
def vref02_Symbols_L2_b (tr : Bool) (C : CallF) (L2 : vref02_Symbols_L2_t) (L1 : vref02_Symbols_L1_t) (S0 : St) (l4 x3 x4 : PV) (y11 y12 : Int) (y13 : PV) (k : Option Tk) (y14 y15 : Int) (S : St) : Rs :=
  if (decide (y15 < y14)) then
    (iadr 2 y13 y15).bind fun y16 =>
    (ldP (some S) true 2 y16).bind fun y17 =>
    (chk (y17.okCells 2)).bind fun _ =>
    ((binA P .eql 9 x3 (y17.cell 0)).bind Abs.asBool).bind fun y18 =>
    if y18 then
      some (fin tr S0 (.bool false) S)
    else
      L2 S0 l4 x3 x4 y11 y12 y13 k y14 (IntKind.wrap .i64 (y15 + 1)) S
  else
    L1 S0 l4 y11 (IntKind.wrap .i64 (y12 + 1)) S
theorem vref02_Symbols_L2_of {tr S0 l4 x3 x4 y11 y12 y13 k y14 y15 S} : Lf (vref02_Symbols_L2_b tr (R tr) (vref02_Symbols_L2 tr) (vref02_Symbols_L1 tr) S0 l4 x3 x4 y11 y12 y13 k y14 y15 S) (vref02_Symbols_L2 tr S0 l4 x3 x4 y11 y12 y13 k y14 y15 S) := lfL (by kernel_rfl)
def vref02_Symbols_J1_b (tr : Bool) (C : CallF) (L2 : vref02_Symbols_L2_t) (S0 : St) (l3 : PV) (i : Int) (x x2 : PV) (y8 : Int) (y9 : Bool) (S : St) : Rs :=
  if y9 then
    some (fin tr S0 (.bool false) S)
  else
    (slc 2 l3 none (some i) none).bind fun y10 =>
    (lenSl y10.1).bind fun n3 =>
    L2 S0 l3 x x2 y8 i y10.1 y10.2 n3 0 S
theorem vref02_Symbols_J1_of {tr S0 l3 i x x2 y8 y9 S} : Lf (vref02_Symbols_J1_b tr (R tr) (vref02_Symbols_L2 tr) S0 l3 i x x2 y8 y9 S) (vref02_Symbols_J1 tr S0 l3 i x x2 y8 y9 S) := lfJ (by kernel_rfl)
def vref02_Symbols_b (tr : Bool) (C : CallF) (L1 : vref02_Symbols_L1_t) (S0 : St) (l : PV) : Rs :=
  (lenSl l).bind fun n =>
  if (decide (n > 24)) then
    some (fin tr S0 (.bool false) S0)
  else
    (lenSl l).bind fun n2 =>
    L1 S0 l n2 0 S0
theorem vref02_Symbols_of {tr S0 l} : Lf (vref02_Symbols_b tr (R tr) (vref02_Symbols_L1 tr) S0 l) (R tr n_vref02_Symbols [l] S0) := lfF (fn := Tryz.f140) (by kernel_rfl) Tryz.func140 (by kernel_rfl) (by kernel_rfl)
abbrev vref03_Place_L1_t := St → PV → Int → PV → Option Tk → PV → Option Tk → PV → Option Tk → Int → Toks → St → Rs
def vref03_Place_L1 (tr : Bool) (S0 : St) (y5 : PV) (y6 : Int) (p : PV) (k : Option Tk) (p2 : PV) (k2 : Option Tk) (p3 : PV) (k3 : Option Tk) (y7 : Int) (ts : Toks) (S : St) : Rs := lAt P (T tr) 141 Tryz.f141 [1, 1, 0, 1, 4] S0 ⟨E 34 [(4, .box [(.snil, none), (.snil, none), (.snil, none)]), (5, .box [(p, k), (p2, k2), (p3, k3)]), (19, .v y5 none), (20, .v (.int .i64 y6) none), (21, .v (.int .i64 y7) none)], ts⟩ S
def vref03_Place_L1_b (tr : Bool) (C : CallF) (L1 : vref03_Place_L1_t) (S0 : St) (y5 : PV) (y6 : Int) (p : PV) (k : Option Tk) (p2 : PV) (k2 : Option Tk) (p3 : PV) (k3 : Option Tk) (y7 : Int) (ts : Toks) (S : St) : Rs :=
  if (decide (y7 < y6)) then
    (iadr 5 y5 y7).bind fun y8 =>
    (ldP (some S) true 5 y8).bind fun y9 =>
    (chk (y9.okCells 5)).bind fun _ =>
    (appendT P 30 ts S.htoks (.v p2 k2) (.sl none 1 [(.agg [(y9.cell 1)])])).bind fun r_ =>
    (chk (r_.1.one && true)).bind fun _ =>
    L1 S0 y5 y6 p k r_.1 r_.2.1 p3 k3 (IntKind.wrap .i64 (y7 + 1)) r_.2.2.1 (S.ht r_.2.2.2)
  else
    some (fin tr S0 (.agg [p, p2, p3]) S)
theorem vref03_Place_L1_of {tr S0 y5 y6 p k p2 k2 p3 k3 y7 ts S} : Lf (vref03_Place_L1_b tr (R tr) (vref03_Place_L1 tr) S0 y5 y6 p k p2 k2 p3 k3 y7 ts S) (vref03_Place_L1 tr S0 y5 y6 p k p2 k2 p3 k3 y7 ts S) := lfL (by kernel_rfl)
def vref03_Place_b (tr : Bool) (C : CallF) (L1 : vref03_Place_L1_t) (S0 : St) (s_Syms s_Funs : PV) (fun_ : Int) : Rs :=
  (iadr 5 s_Funs fun_).bind fun y =>
  (fadrV 1 y).bind fun y2 =>
  (fadrV 0 y2).bind fun y3 =>
  (ldV (some S0) false 1 y3).bind fun y4 =>
  (chk (s_Syms.okCells 1)).bind fun _ =>
  (chk (y4.1.okCells 1)).bind fun _ =>
  (lenSl s_Funs).bind fun n =>
  L1 S0 s_Funs n (s_Syms.cell 0) none (.snil) none (y4.1.cell 0) none 0 ([]) S0
theorem vref03_Place_of {tr S0 s_Syms s_Funs fun_} : Lf (vref03_Place_b tr (R tr) (vref03_Place_L1 tr) S0 s_Syms s_Funs fun_) (R tr n_vref03_Place [(.agg [s_Syms, s_Funs]), (.int .i64 fun_)] S0) := lfF (fn := Tryz.f141) (by kernel_rfl) Tryz.func141 (by kernel_rfl) (by kernel_rfl)
abbrev scheme_Check_J1_t := St → PV → PV → Bool → St → Rs
def scheme_Check_J1 (tr : Bool) (S0 : St) (s s2 : PV) (y6 : Bool) (S : St) : Rs := jAt P (T tr) 142 Tryz.f142 [1, 0, 1] S0 ⟨E 111 [(1, .box [(s, none), (s2, none)]), (43, .v (.bool y6) none)], []⟩ S
abbrev scheme_Check_L1_t := St → PV → PV → Nat → Int → Int → St → Rs
def scheme_Check_L1 (tr : Bool) (S0 : St) (s3 s4 : PV) (id : Nat) (y7 y8 : Int) (S : St) : Rs := lAt P (T tr) 142 Tryz.f142 [1, 1, 1, 0, 1, 4] S0 ⟨E 111 [(1, .box [(s3, none), (s4, none)]), (3, .v (.mp id) none), (46, .v s4 none), (47, .v (.int .i64 y7) none), (48, .v (.int .i64 y8) none)], []⟩ S
abbrev scheme_Check_J2_t := St → PV → PV → Nat → PV → PV → PV → PV → PV → Int → Int → Bool → St → Rs
def scheme_Check_J2 (tr : Bool) (S0 : St) (s5 s6 : PV) (id2 : Nat) (f f2 f3 f4 f5 : PV) (y14 y15 : Int) (y16 : Bool) (S : St) : Rs := jAt P (T tr) 142 Tryz.f142 [1, 1, 1, 0, 1, 4, 5, 1, 1, 0, 4, 1, 0, 1] S0 ⟨E 111 [(1, .box [(s5, none), (s6, none)]), (3, .v (.mp id2) none), (5, .box [(f, none), (f2, none), (f3, none), (f4, none), (f5, none)]), (46, .v s6 none), (47, .v (.int .i64 y14) none), (48, .v (.int .i64 y15) none), (67, .v (.bool y16) none)], []⟩ S
abbrev scheme_Check_L2_t := St → PV → PV → Int → Int → St → Rs
def scheme_Check_L2 (tr : Bool) (S0 : St) (s7 s8 : PV) (y17 y18 : Int) (S : St) : Rs := lAt P (T tr) 142 Tryz.f142 [1, 1, 1, 1, 0, 1, 4] S0 ⟨E 111 [(1, .box [(s7, none), (s8, none)]), (73, .v s8 none), (74, .v (.int .i64 y17) none), (75, .v (.int .i64 y18) none)], []⟩ S
abbrev scheme_Check_J3_t := St → PV → PV → PV → PV → PV → PV → PV → Int → Int → Bool → St → Rs
def scheme_Check_J3 (tr : Bool) (S0 : St) (s9 s10 f6 f7 f8 f9 f10 : PV) (y23 y24 : Int) (y25 : Bool) (S : St) : Rs := jAt P (T tr) 142 Tryz.f142 [1, 1, 1, 1, 0, 1, 4, 5, 1, 1, 0, 4, 1, 1, 0, 1] S0 ⟨E 111 [(1, .box [(s9, none), (s10, none)]), (7, .box [(f6, none), (f7, none), (f8, none), (f9, none), (f10, none)]), (73, .v s10 none), (74, .v (.int .i64 y23) none), (75, .v (.int .i64 y24) none), (90, .v (.bool y25) none)], []⟩ S
abbrev scheme_Check_J4_t := St → PV → PV → Int → Int → Bool → St → Rs
def scheme_Check_J4 (tr : Bool) (S0 : St) (s11 s12 : PV) (y27 y28 : Int) (y29 : Bool) (S : St) : Rs := jAt P (T tr) 142 Tryz.f142 [1, 1, 1, 1, 0, 1, 4, 5, 1, 1, 0, 4, 1, 1, 1, 1, 1] S0 ⟨E 111 [(1, .box [(s11, none), (s12, none)]), (73, .v s12 none), (74, .v (.int .i64 y27) none), (75, .v (.int .i64 y28) none), (109, .v (.bool y29) none)], []⟩ S
def scheme_Check_L2_b (tr : Bool) (C : CallF) (J3 : scheme_Check_J3_t) (S0 : St) (s7 s8 : PV) (y17 y18 : Int) (S : St) : Rs :=
  if (decide (y18 < y17)) then
    (iadr 5 s8 y18).bind fun y19 =>
    (ldP (some S) true 5 y19).bind fun y20 =>
    (chk (y20.okCells 5)).bind fun _ =>
    (C n_term_Size [(.agg [(y20.cell 2), (y20.cell 3), (y20.cell 4)])] S).bind fun r_4 =>
    (chk (decide (0 < r_4.1.comps.length))).bind fun _ =>
    (intOf .i64 (r_4.1.comps.getD 0 .undef)).bind fun y21 =>
    (chk (decide (1 < r_4.1.comps.length))).bind fun _ =>
    (intOf .i64 (r_4.1.comps.getD 1 .undef)).bind fun y22 =>
    if (decide (y21 > 400)) then
      J3 S0 s7 s8 (y20.cell 0) (y20.cell 1) (y20.cell 2) (y20.cell 3) (y20.cell 4) y17 y18 true r_4.2
    else
      J3 S0 s7 s8 (y20.cell 0) (y20.cell 1) (y20.cell 2) (y20.cell 3) (y20.cell 4) y17 y18 (decide (y22 > 30)) r_4.2
  else
    some (fin tr S0 (.int .i64 0) S)
theorem scheme_Check_L2_of {tr S0 s7 s8 y17 y18 S} : Lf (scheme_Check_L2_b tr (R tr) (scheme_Check_J3 tr) S0 s7 s8 y17 y18 S) (scheme_Check_L2 tr S0 s7 s8 y17 y18 S) := lfL (by kernel_rfl)
def scheme_Check_J4_b (tr : Bool) (C : CallF) (L2 : scheme_Check_L2_t) (S0 : St) (s11 s12 : PV) (y27 y28 : Int) (y29 : Bool) (S : St) : Rs :=
  if y29 then
    some (fin tr S0 (.int .i64 7) S)
  else
    L2 S0 s11 s12 y27 (IntKind.wrap .i64 (y28 + 1)) S
theorem scheme_Check_J4_of {tr S0 s11 s12 y27 y28 y29 S} : Lf (scheme_Check_J4_b tr (R tr) (scheme_Check_L2 tr) S0 s11 s12 y27 y28 y29 S) (scheme_Check_J4 tr S0 s11 s12 y27 y28 y29 S) := lfJ (by kernel_rfl)
def scheme_Check_J3_b (tr : Bool) (C : CallF) (J4 : scheme_Check_J4_t) (S0 : St) (s9 s10 f6 f7 f8 f9 f10 : PV) (y23 y24 : Int) (y25 : Bool) (S : St) : Rs :=
  if y25 then
    some (fin tr S0 (.int .i64 7) S)
  else
    (C n_scheme_Place [(.agg [s9, s10]), f7] S).bind fun r_5 =>
    (C n_term_Place_Of [r_5.1, (.agg [f8, f9, f10])] r_5.2).bind fun r_6 =>
    (chk (decide (0 < r_6.1.comps.length))).bind fun _ =>
    (chk (decide (1 < r_6.1.comps.length))).bind fun _ =>
    (Abs.asBool (r_6.1.comps.getD 1 .undef)).bind fun y26 =>
    (chk ((r_6.1.comps.getD 0 .undef).okCells 1)).bind fun _ =>
    if (!y26) then
      J4 S0 s9 s10 y23 y24 true r_6.2
    else
      (lenSl ((r_6.1.comps.getD 0 .undef).cell 0)).bind fun n7 =>
      J4 S0 s9 s10 y23 y24 (decide (n7 > 0)) r_6.2
theorem scheme_Check_J3_of {tr S0 s9 s10 f6 f7 f8 f9 f10 y23 y24 y25 S} : Lf (scheme_Check_J3_b tr (R tr) (scheme_Check_J4 tr) S0 s9 s10 f6 f7 f8 f9 f10 y23 y24 y25 S) (scheme_Check_J3 tr S0 s9 s10 f6 f7 f8 f9 f10 y23 y24 y25 S) := lfJ (by kernel_rfl)
def scheme_Check_L1_b (tr : Bool) (C : CallF) (J2 : scheme_Check_J2_t) (L2 : scheme_Check_L2_t) (S0 : St) (s3 s4 : PV) (id : Nat) (y7 y8 : Int) (S : St) : Rs :=
  if (decide (y8 < y7)) then
    (iadr 5 s4 y8).bind fun y9 =>
    (ldP (some S) true 5 y9).bind fun y10 =>
    (chk (y10.okCells 5)).bind fun _ =>
    (C n_term_Name [(y10.cell 0)] S).bind fun r_2 =>
    (Abs.asBool r_2.1).bind fun y11 =>
    if (!y11) then
      J2 S0 s3 s4 id (y10.cell 0) (y10.cell 1) (y10.cell 2) (y10.cell 3) (y10.cell 4) y7 y8 true r_2.2
    else
      (mapEs r_2.2 (.mp id)).bind fun es =>
      (findKey P r_2.2 9 (y10.cell 0) es).bind fun found =>
      (Abs.asBool (found.getD (.bool false))).bind fun y12 =>
      if y12 then
        J2 S0 s3 s4 id (y10.cell 0) (y10.cell 1) (y10.cell 2) (y10.cell 3) (y10.cell 4) y7 y8 true r_2.2
      else
        (C n_sorts_Check [(.agg [(y10.cell 1)])] r_2.2).bind fun r_3 =>
        (intOf .i64 r_3.1).bind fun y13 =>
        J2 S0 s3 s4 id (y10.cell 0) (y10.cell 1) (y10.cell 2) (y10.cell 3) (y10.cell 4) y7 y8 (y13 != 0) r_3.2
  else
    (lenSl s4).bind fun n6 =>
    L2 S0 s3 s4 n6 0 S
theorem scheme_Check_L1_of {tr S0 s3 s4 id y7 y8 S} : Lf (scheme_Check_L1_b tr (R tr) (scheme_Check_J2 tr) (scheme_Check_L2 tr) S0 s3 s4 id y7 y8 S) (scheme_Check_L1 tr S0 s3 s4 id y7 y8 S) := lfL (by kernel_rfl)
def scheme_Check_J2_b (tr : Bool) (C : CallF) (L1 : scheme_Check_L1_t) (S0 : St) (s5 s6 : PV) (id2 : Nat) (f f2 f3 f4 f5 : PV) (y14 y15 : Int) (y16 : Bool) (S : St) : Rs :=
  if y16 then
    some (fin tr S0 (.int .i64 7) S)
  else
    (upMap P S 9 (.mp id2) f (.bool true)).bind fun S_ =>
    L1 S0 s5 s6 id2 y14 (IntKind.wrap .i64 (y15 + 1)) S_
theorem scheme_Check_J2_of {tr S0 s5 s6 id2 f f2 f3 f4 f5 y14 y15 y16 S} : Lf (scheme_Check_J2_b tr (R tr) (scheme_Check_L1 tr) S0 s5 s6 id2 f f2 f3 f4 f5 y14 y15 y16 S) (scheme_Check_J2 tr S0 s5 s6 id2 f f2 f3 f4 f5 y14 y15 y16 S) := lfJ (by kernel_rfl)
def scheme_Check_J1_b (tr : Bool) (C : CallF) (L1 : scheme_Check_L1_t) (S0 : St) (s s2 : PV) (y6 : Bool) (S : St) : Rs :=
  if y6 then
    some (fin tr S0 (.int .i64 7) S)
  else
    (lenSl s2).bind fun n5 =>
    L1 S0 s s2 S.objs.length n5 0 (S.newMap)
theorem scheme_Check_J1_of {tr S0 s s2 y6 S} : Lf (scheme_Check_J1_b tr (R tr) (scheme_Check_L1 tr) S0 s s2 y6 S) (scheme_Check_J1 tr S0 s s2 y6 S) := lfJ (by kernel_rfl)
def scheme_Check_b (tr : Bool) (C : CallF) (J1 : scheme_Check_J1_t) (S0 : St) (s_Syms s_Funs : PV) : Rs :=
  (lenSl s_Syms).bind fun n =>
  if (decide (n > 24)) then
    J1 S0 s_Syms s_Funs true S0
  else
    (C n_term_Symbols [s_Syms] S0).bind fun r_ =>
    (Abs.asBool r_.1).bind fun y =>
    if (!y) then
      J1 S0 s_Syms s_Funs true r_.2
    else
      (lenSl s_Funs).bind fun n2 =>
      if (n2 == 0) then
        J1 S0 s_Syms s_Funs true r_.2
      else
        (lenSl s_Funs).bind fun n3 =>
        if (decide (n3 > 64)) then
          J1 S0 s_Syms s_Funs true r_.2
        else
          (iadr 5 s_Funs 0).bind fun y2 =>
          (fadrV 1 y2).bind fun y3 =>
          (fadrV 0 y3).bind fun y4 =>
          (ldV (some r_.2) false 1 y4).bind fun y5 =>
          (lenSl y5.1).bind fun n4 =>
          J1 S0 s_Syms s_Funs (decide (n4 > 0)) r_.2
theorem scheme_Check_of {tr S0 s_Syms s_Funs} : Lf (scheme_Check_b tr (R tr) (scheme_Check_J1 tr) S0 s_Syms s_Funs) (R tr n_scheme_Check [(.agg [s_Syms, s_Funs])] S0) := lfF (fn := Tryz.f142) (by kernel_rfl) Tryz.func142 (by kernel_rfl) (by kernel_rfl)
abbrev tree_Ranks_L1_t := St → PV → Int → Int → St → Rs
def tree_Ranks_L1 (tr : Bool) (S0 : St) (ranks2 : PV) (y y2 : Int) (S : St) : Rs := lAt P (T tr) 143 Tryz.f143 [1, 0, 1, 4] S0 ⟨E 21 [(0, .v ranks2 none), (5, .v ranks2 none), (6, .v (.int .i64 y) none), (7, .v (.int .i64 y2) none)], []⟩ S
abbrev tree_Ranks_J1_t := St → PV → Int → Int → Bool → St → Rs
def tree_Ranks_J1 (tr : Bool) (S0 : St) (ranks3 : PV) (y5 y6 : Int) (y7 : Bool) (S : St) : Rs := jAt P (T tr) 143 Tryz.f143 [1, 0, 1, 4, 5, 1, 1, 0, 4, 1, 1] S0 ⟨E 21 [(0, .v ranks3 none), (5, .v ranks3 none), (6, .v (.int .i64 y5) none), (7, .v (.int .i64 y6) none), (16, .v (.bool y7) none)], []⟩ S
def tree_Ranks_L1_b (tr : Bool) (C : CallF) (J1 : tree_Ranks_J1_t) (S0 : St) (ranks2 : PV) (y y2 : Int) (S : St) : Rs :=
  if (decide (y2 < y)) then
    (iadr 1 ranks2 y2).bind fun y3 =>
    ((ldP (some S) false 1 y3).bind (intOf .i64)).bind fun y4 =>
    if (decide (y4 < 0)) then
      J1 S0 ranks2 y y2 true S
    else
      J1 S0 ranks2 y y2 (decide (y4 > 4)) S
  else
    (lenSl ranks2).bind fun n2 =>
    some (fin tr S0 (.bool (decide (n2 ≤ 24))) S)
theorem tree_Ranks_L1_of {tr S0 ranks2 y y2 S} : Lf (tree_Ranks_L1_b tr (R tr) (tree_Ranks_J1 tr) S0 ranks2 y y2 S) (tree_Ranks_L1 tr S0 ranks2 y y2 S) := lfL (by kernel_rfl)
def tree_Ranks_J1_b (tr : Bool) (C : CallF) (L1 : tree_Ranks_L1_t) (S0 : St) (ranks3 : PV) (y5 y6 : Int) (y7 : Bool) (S : St) : Rs :=
  if y7 then
    some (fin tr S0 (.bool false) S)
  else
    L1 S0 ranks3 y5 (IntKind.wrap .i64 (y6 + 1)) S
theorem tree_Ranks_J1_of {tr S0 ranks3 y5 y6 y7 S} : Lf (tree_Ranks_J1_b tr (R tr) (tree_Ranks_L1 tr) S0 ranks3 y5 y6 y7 S) (tree_Ranks_J1 tr S0 ranks3 y5 y6 y7 S) := lfJ (by kernel_rfl)
def tree_Ranks_b (tr : Bool) (C : CallF) (L1 : tree_Ranks_L1_t) (S0 : St) (ranks : PV) : Rs :=
  (lenSl ranks).bind fun n =>
  L1 S0 ranks n 0 S0
theorem tree_Ranks_of {tr S0 ranks} : Lf (tree_Ranks_b tr (R tr) (tree_Ranks_L1 tr) S0 ranks) (R tr n_tree_Ranks [ranks] S0) := lfF (fn := Tryz.f143) (by kernel_rfl) Tryz.func143 (by kernel_rfl) (by kernel_rfl)
def auto_Check_1_b (tr : Bool) (C : CallF) (S0 : St) (x_Kid x_State : Int) (y y2 y3 : PV) : Rs :=
  if (decide (x_Kid < 0)) then
    some (fin tr S0 (.bool true) S0)
  else
    (fadrV 0 y).bind fun y4 =>
    (ldV (some S0) false 1 y4).bind fun y5 =>
    ((ldP (some S0) false 1 y2).bind (intOf .i64)).bind fun y6 =>
    (iadr 1 y5.1 y6).bind fun y7 =>
    ((ldP (some S0) false 1 y7).bind (intOf .i64)).bind fun y8 =>
    if (decide (x_Kid ≥ y8)) then
      some (fin tr S0 (.bool true) S0)
    else
      if (decide (x_State < 0)) then
        some (fin tr S0 (.bool true) S0)
      else
        ((ldP (some S0) false 1 y3).bind (intOf .i64)).bind fun y9 =>
        some (fin tr S0 (.bool (decide (x_State ≥ y9))) S0)
theorem auto_Check_1_of {tr S0 x_Kid x_State y y2 y3} : Lf (auto_Check_1_b tr (R tr) S0 x_Kid x_State y y2 y3) (R tr n_auto_Check_1 [(.agg [(.int .i64 x_Kid), (.int .i64 x_State)]), y, y2, y3] S0) := lfF (fn := Tryz.f144) (by kernel_rfl) Tryz.func144 (by kernel_rfl) (by kernel_rfl)
def slices_ContainsFunc_of_api_Need_b (tr : Bool) (C : CallF) (S0 : St) (s f : PV) : Rs :=
  (C n_slices_IndexFunc_of_api_Need [s, f] S0).bind fun r_ =>
  (intOf .i64 r_.1).bind fun y =>
  some (fin tr S0 (.bool (decide (y ≥ 0))) r_.2)
theorem slices_ContainsFunc_of_api_Need_of {tr S0 s f} : Lf (slices_ContainsFunc_of_api_Need_b tr (R tr) S0 s f) (R tr n_slices_ContainsFunc_of_api_Need [s, f] S0) := lfF (fn := Tryz.f145) (by kernel_rfl) Tryz.func145 (by kernel_rfl) (by kernel_rfl)
end
end Go.Proofs.YtjdknnlhhenpnaaGreatDoor
namespace Go.Proofs.YtjdknnlhhenpnaaGreatDoor
open Go Go.Abs
noncomputable section
abbrev auto_rising_of_api_Need_L1_t := St → PV → PV → Int → St → Rs
def auto_rising_of_api_Need_L1 (tr : Bool) (S0 : St) (l2 before2 : PV) (i : Int) (S : St) : Rs := lAt P (T tr) 146 Tryz.f146 [1, 0, 1, 4] S0 ⟨E 24 [(0, .v l2 none), (1, .v before2 none), (5, .v (.int .i64 i) none)], []⟩ S
def auto_rising_of_api_Need_L1_b (tr : Bool) (C : CallF) (L1 : auto_rising_of_api_Need_L1_t) (S0 : St) (l2 before2 : PV) (i : Int) (S : St) : Rs :=
  (lenSl l2).bind fun n =>
  if (decide (i < n)) then
    (iadr 2 l2 (IntKind.wrap .i64 (i - 1))).bind fun y =>
    (ldP (some S) true 2 y).bind fun y2 =>
    (iadr 2 l2 i).bind fun y3 =>
    (ldP (some S) true 2 y3).bind fun y4 =>
    (callV C before2 [y2, y4] S).bind fun r_ =>
    (intOf .i64 r_.1).bind fun y5 =>
    if (decide (y5 ≥ 0)) then
      some (fin tr S0 (.bool false) r_.2)
    else
      L1 S0 l2 before2 (IntKind.wrap .i64 (i + 1)) r_.2
  else
    some (fin tr S0 (.bool true) S)
theorem auto_rising_of_api_Need_L1_of {tr S0 l2 before2 i S} : Lf (auto_rising_of_api_Need_L1_b tr (R tr) (auto_rising_of_api_Need_L1 tr) S0 l2 before2 i S) (auto_rising_of_api_Need_L1 tr S0 l2 before2 i S) := lfL (by kernel_rfl)
def auto_rising_of_api_Need_b (tr : Bool) (C : CallF) (L1 : auto_rising_of_api_Need_L1_t) (S0 : St) (l before : PV) : Rs :=
  L1 S0 l before 1 S0
theorem auto_rising_of_api_Need_of {tr S0 l before} : Lf (auto_rising_of_api_Need_b tr (R tr) (auto_rising_of_api_Need_L1 tr) S0 l before) (R tr n_auto_rising_of_api_Need [l, before] S0) := lfF (fn := Tryz.f146) (by kernel_rfl) Tryz.func146 (by kernel_rfl) (by kernel_rfl)
def auto_Before_b (tr : Bool) (C : CallF) (S0 : St) (x_Kid x_State y_Kid y_State : Int) : Rs :=
  if (x_Kid != y_Kid) then
    some (fin tr S0 (.int .i64 (IntKind.wrap .i64 (x_Kid - y_Kid))) S0)
  else
    some (fin tr S0 (.int .i64 (IntKind.wrap .i64 (x_State - y_State))) S0)
theorem auto_Before_of {tr S0 x_Kid x_State y_Kid y_State} : Lf (auto_Before_b tr (R tr) S0 x_Kid x_State y_Kid y_State) (R tr n_auto_Before [(.agg [(.int .i64 x_Kid), (.int .i64 x_State)]), (.agg [(.int .i64 y_Kid), (.int .i64 y_State)])] S0) := lfF (fn := Tryz.f147) (by kernel_rfl) Tryz.func147 (by kernel_rfl) (by kernel_rfl)
abbrev auto_rising_of_Lapi_Need_L1_t := St → PV → PV → Int → St → Rs
def auto_rising_of_Lapi_Need_L1 (tr : Bool) (S0 : St) (l2 before2 : PV) (i : Int) (S : St) : Rs := lAt P (T tr) 148 Tryz.f148 [1, 0, 1, 4] S0 ⟨E 24 [(0, .v l2 none), (1, .v before2 none), (5, .v (.int .i64 i) none)], []⟩ S
def auto_rising_of_Lapi_Need_L1_b (tr : Bool) (C : CallF) (L1 : auto_rising_of_Lapi_Need_L1_t) (S0 : St) (l2 before2 : PV) (i : Int) (S : St) : Rs :=
  (lenSl l2).bind fun n =>
  if (decide (i < n)) then
    (iadr 1 l2 (IntKind.wrap .i64 (i - 1))).bind fun y =>
    (ldV (some S) false 1 y).bind fun y2 =>
    (iadr 1 l2 i).bind fun y3 =>
    (ldV (some S) false 1 y3).bind fun y4 =>
    (callV C before2 [y2.1, y4.1] S).bind fun r_ =>
    (intOf .i64 r_.1).bind fun y5 =>
    if (decide (y5 ≥ 0)) then
      some (fin tr S0 (.bool false) r_.2)
    else
      L1 S0 l2 before2 (IntKind.wrap .i64 (i + 1)) r_.2
  else
    some (fin tr S0 (.bool true) S)
theorem auto_rising_of_Lapi_Need_L1_of {tr S0 l2 before2 i S} : Lf (auto_rising_of_Lapi_Need_L1_b tr (R tr) (auto_rising_of_Lapi_Need_L1 tr) S0 l2 before2 i S) (auto_rising_of_Lapi_Need_L1 tr S0 l2 before2 i S) := lfL (by kernel_rfl)
def auto_rising_of_Lapi_Need_b (tr : Bool) (C : CallF) (L1 : auto_rising_of_Lapi_Need_L1_t) (S0 : St) (l before : PV) : Rs :=
  L1 S0 l before 1 S0
theorem auto_rising_of_Lapi_Need_of {tr S0 l before} : Lf (auto_rising_of_Lapi_Need_b tr (R tr) (auto_rising_of_Lapi_Need_L1 tr) S0 l before) (R tr n_auto_rising_of_Lapi_Need [l, before] S0) := lfF (fn := Tryz.f148) (by kernel_rfl) Tryz.func148 (by kernel_rfl) (by kernel_rfl)
def auto_Lists_b (tr : Bool) (C : CallF) (S0 : St) (x y : PV) : Rs :=
  (C n_slices_CompareFunc_of_api_Need [x, y, (.fn n_auto_Before [])] S0).bind fun r_ =>
  (intOf .i64 r_.1).bind fun y2 =>
  some (fin tr S0 (.int .i64 y2) r_.2)
theorem auto_Lists_of {tr S0 x y} : Lf (auto_Lists_b tr (R tr) S0 x y) (R tr n_auto_Lists [x, y] S0) := lfF (fn := Tryz.f149) (by kernel_rfl) Tryz.func149 (by kernel_rfl) (by kernel_rfl)
abbrev sorts_measure_L1_t := St → PV → PV → Int → Int → Int → Toks → St → Rs
def sorts_measure_L1 (tr : Bool) (S0 : St) (left2 y4 : PV) (y5 depth y6 : Int) (ts : Toks) (S : St) : Rs := lAt P (T tr) 150 Tryz.f150 [1, 1, 1, 0, 1, 4] S0 ⟨E 32 [(1, .v left2 none), (5, .v (.int .i64 depth) none), (14, .v y4 none), (15, .v (.int .i64 y5) none), (16, .v (.int .i64 y6) none)], ts⟩ S
def sorts_measure_L1_b (tr : Bool) (C : CallF) (L1 : sorts_measure_L1_t) (S0 : St) (left2 y4 : PV) (y5 depth y6 : Int) (ts : Toks) (S : St) : Rs :=
  if (decide (y6 < y5)) then
    (iadr 1 y4 y6).bind fun y7 =>
    (ldP (some S) true 1 y7).bind fun y8 =>
    (chk (y8.okCells 1)).bind fun _ =>
    (nilV left2).bind fun y9 =>
    ((ldP (some S) false 1 y9).bind (intOf .i64)).bind fun y10 =>
    if (decide (y10 < 0)) then
      some (fin tr S0 (.int .i64 0) S)
    else
      (C n_sorts_measure [(.agg [(y8.cell 0)]), left2] S).bind fun r_ =>
      (intOf .i64 r_.1).bind fun y11 =>
      L1 S0 left2 y4 y5 (maxI depth y11) (IntKind.wrap .i64 (y6 + 1)) ts r_.2
  else
    some (fin tr S0 (.int .i64 (IntKind.wrap .i64 (depth + 1))) S)
theorem sorts_measure_L1_of {tr S0 left2 y4 y5 depth y6 ts S} : Lf (sorts_measure_L1_b tr (R tr) (sorts_measure_L1 tr) S0 left2 y4 y5 depth y6 ts S) (sorts_measure_L1 tr S0 left2 y4 y5 depth y6 ts S) := lfL (by kernel_rfl)
def sorts_measure_b (tr : Bool) (C : CallF) (L1 : sorts_measure_L1_t) (S0 : St) (s_Args left : PV) : Rs :=
  (nilV left).bind fun y =>
  ((ldP (some S0) false 1 y).bind (intOf .i64)).bind fun y2 =>
  (nilV left).bind fun y3 =>
  (stoP [] S0 false 1 y3 [((.int .i64 (IntKind.wrap .i64 (y2 - 1))), none)]).bind fun w =>
  (lenSl s_Args).bind fun n =>
  L1 S0 left s_Args n 0 0 w.1 w.2
theorem sorts_measure_of {tr S0 s_Args left} : Lf (sorts_measure_b tr (R tr) (sorts_measure_L1 tr) S0 s_Args left) (R tr n_sorts_measure [(.agg [s_Args]), left] S0) := lfF (fn := Tryz.f150) (by kernel_rfl) Tryz.func150 (by kernel_rfl) (by kernel_rfl)
abbrev term_Place_sort_J1_t := St → PV → PV → PV → Int → Int → PV → PV → Bool → St → Rs
def term_Place_sort_J1 (tr : Bool) (S0 : St) (p p2 p3 : PV) (t t2 : Int) (t3 s : PV) (y2 : Bool) (S : St) : Rs := jAt P (T tr) 151 Tryz.f151 [1, 1, 0, 1] S0 ⟨E 65 [(2, .box [(p, none), (p2, none), (p3, none)]), (3, .box [((.int .i64 t), none), ((.int .i64 t2), none), (t3, none)]), (4, .box [(.snil, none)]), (6, .box [(s, none)]), (28, .v (.bool y2) none)], []⟩ S
abbrev term_Place_sort_L1_t := St → PV → PV → PV → Int → Int → PV → PV → Int → PV → Int → St → Rs
def term_Place_sort_L1 (tr : Bool) (S0 : St) (p4 p5 p6 : PV) (t4 t5 : Int) (t6 s2 : PV) (y3 : Int) (y4 : PV) (y5 : Int) (S : St) : Rs := lAt P (T tr) 151 Tryz.f151 [1, 1, 1, 0, 1, 4] S0 ⟨E 65 [(2, .box [(p4, none), (p5, none), (p6, none)]), (3, .box [((.int .i64 t4), none), ((.int .i64 t5), none), (t6, none)]), (4, .box [(y4, none)]), (6, .box [(s2, none)]), (31, .v t6 none), (32, .v (.int .i64 y3) none), (33, .v (.int .i64 y5) none)], []⟩ S
abbrev term_Place_sort_J2_t := St → PV → PV → PV → Int → Int → PV → PV → PV → Int → Int → Bool → St → Rs
def term_Place_sort_J2 (tr : Bool) (S0 : St) (p7 p8 p9 : PV) (t7 t8 : Int) (t9 y12 s3 : PV) (y13 y14 : Int) (y15 : Bool) (S : St) : Rs := jAt P (T tr) 151 Tryz.f151 [1, 1, 1, 0, 1, 4, 5, 1, 1, 0, 4, 1, 1, 1] S0 ⟨E 65 [(2, .box [(p7, none), (p8, none), (p9, none)]), (3, .box [((.int .i64 t7), none), ((.int .i64 t8), none), (t9, none)]), (4, .box [(y12, none)]), (6, .box [(s3, none)]), (31, .v t9 none), (32, .v (.int .i64 y13) none), (33, .v (.int .i64 y14) none), (55, .v (.bool y15) none)], []⟩ S
def term_Place_sort_L1_b (tr : Bool) (C : CallF) (J2 : term_Place_sort_J2_t) (S0 : St) (p4 p5 p6 : PV) (t4 t5 : Int) (t6 s2 : PV) (y3 : Int) (y4 : PV) (y5 : Int) (S : St) : Rs :=
  if (decide (y5 < y3)) then
    (iadr 3 t6 y5).bind fun y6 =>
    (ldP (some S) true 3 y6).bind fun y7 =>
    (chk (y7.okCells 3)).bind fun _ =>
    (C n_term_Place_sort [(.agg [p4, p5, p6]), (.agg [(y7.cell 0), (y7.cell 1), (y7.cell 2)])] S).bind fun r_2 =>
    (chk (decide (0 < r_2.1.comps.length))).bind fun _ =>
    (chk (decide (1 < r_2.1.comps.length))).bind fun _ =>
    (Abs.asBool (r_2.1.comps.getD 1 .undef)).bind fun y8 =>
    (chk ((r_2.1.comps.getD 0 .undef).okCells 1)).bind fun _ =>
    if (!y8) then
      J2 S0 p4 p5 p6 t4 t5 t6 y4 s2 y3 y5 true r_2.2
    else
      (iadr 1 s2 y5).bind fun y9 =>
      (ldP (some r_2.2) true 1 y9).bind fun y10 =>
      (C n_sorts_Same [(.agg [((r_2.1.comps.getD 0 .undef).cell 0)]), y10] r_2.2).bind fun r_3 =>
      (Abs.asBool r_3.1).bind fun y11 =>
      J2 S0 p4 p5 p6 t4 t5 t6 y4 s2 y3 y5 (!y11) r_3.2
  else
    (lenSl t6).bind fun n4 =>
    (slc 1 s2 (some n4) none none).bind fun y16 =>
    (chk (y16.1.okCells 1)).bind fun _ =>
    some (fin tr S0 (.tup [(.agg [(y16.1.cell 0)]), (.bool true)]) S)
theorem term_Place_sort_L1_of {tr S0 p4 p5 p6 t4 t5 t6 s2 y3 y4 y5 S} : Lf (term_Place_sort_L1_b tr (R tr) (term_Place_sort_J2 tr) S0 p4 p5 p6 t4 t5 t6 s2 y3 y4 y5 S) (term_Place_sort_L1 tr S0 p4 p5 p6 t4 t5 t6 s2 y3 y4 y5 S) := lfL (by kernel_rfl)
def term_Place_sort_J2_b (tr : Bool) (C : CallF) (L1 : term_Place_sort_L1_t) (S0 : St) (p7 p8 p9 : PV) (t7 t8 : Int) (t9 y12 s3 : PV) (y13 y14 : Int) (y15 : Bool) (S : St) : Rs :=
  if y15 then
    some (fin tr S0 (.tup [(.agg [.snil]), (.bool false)]) S)
  else
    L1 S0 p7 p8 p9 t7 t8 t9 s3 y13 y12 (IntKind.wrap .i64 (y14 + 1)) S
theorem term_Place_sort_J2_of {tr S0 p7 p8 p9 t7 t8 t9 y12 s3 y13 y14 y15 S} : Lf (term_Place_sort_J2_b tr (R tr) (term_Place_sort_L1 tr) S0 p7 p8 p9 t7 t8 t9 y12 s3 y13 y14 y15 S) (term_Place_sort_J2 tr S0 p7 p8 p9 t7 t8 t9 y12 s3 y13 y14 y15 S) := lfJ (by kernel_rfl)
def term_Place_sort_J1_b (tr : Bool) (C : CallF) (L1 : term_Place_sort_L1_t) (S0 : St) (p p2 p3 : PV) (t t2 : Int) (t3 s : PV) (y2 : Bool) (S : St) : Rs :=
  if y2 then
    some (fin tr S0 (.tup [(.agg [.snil]), (.bool false)]) S)
  else
    (lenSl t3).bind fun n3 =>
    L1 S0 p p2 p3 t t2 t3 s n3 (.snil) 0 S
theorem term_Place_sort_J1_of {tr S0 p p2 p3 t t2 t3 s y2 S} : Lf (term_Place_sort_J1_b tr (R tr) (term_Place_sort_L1 tr) S0 p p2 p3 t t2 t3 s y2 S) (term_Place_sort_J1 tr S0 p p2 p3 t t2 t3 s y2 S) := lfJ (by kernel_rfl)
def term_Place_sort_b (tr : Bool) (C : CallF) (J1 : term_Place_sort_J1_t) (S0 : St) (p_Syms p_Funs p_Params : PV) (t_Kind t_N : Int) (t_Args : PV) : Rs :=
  (C n_term_Place_head [(.agg [p_Syms, p_Funs, p_Params]), (.agg [(.int .i64 t_Kind), (.int .i64 t_N), t_Args])] S0).bind fun r_ =>
  (chk (decide (0 < r_.1.comps.length))).bind fun _ =>
  (chk (decide (1 < r_.1.comps.length))).bind fun _ =>
  (Abs.asBool (r_.1.comps.getD 1 .undef)).bind fun y =>
  (chk ((r_.1.comps.getD 0 .undef).okCells 1)).bind fun _ =>
  if (!y) then
    J1 S0 p_Syms p_Funs p_Params t_Kind t_N t_Args ((r_.1.comps.getD 0 .undef).cell 0) true r_.2
  else
    (lenSl t_Args).bind fun n =>
    (lenSl ((r_.1.comps.getD 0 .undef).cell 0)).bind fun n2 =>
    J1 S0 p_Syms p_Funs p_Params t_Kind t_N t_Args ((r_.1.comps.getD 0 .undef).cell 0) (decide (n > n2)) r_.2
theorem term_Place_sort_of {tr S0 p_Syms p_Funs p_Params t_Kind t_N t_Args} : Lf (term_Place_sort_b tr (R tr) (term_Place_sort_J1 tr) S0 p_Syms p_Funs p_Params t_Kind t_N t_Args) (R tr n_term_Place_sort [(.agg [p_Syms, p_Funs, p_Params]), (.agg [(.int .i64 t_Kind), (.int .i64 t_N), t_Args])] S0) := lfF (fn := Tryz.f151) (by kernel_rfl) Tryz.func151 (by kernel_rfl) (by kernel_rfl)
abbrev inter_write_L1_t := St → PV → Int → PV → Int → Int → St → Rs
def inter_write_L1 (tr : Bool) (S0 : St) (out2 : PV) (t : Int) (t2 : PV) (y y2 : Int) (S : St) : Rs := lAt P (T tr) 152 Tryz.f152 [1, 0, 1, 4] S0 ⟨E 40 [(0, .v out2 none), (3, .box [((.int .i64 t), none), (t2, none)]), (9, .v t2 none), (10, .v (.int .i64 y) none), (11, .v (.int .i64 y2) none)], []⟩ S
abbrev inter_write_L2_t := St → PV → Int → PV → Int → Int → PV → Option Tk → Int → Int → St → Rs
def inter_write_L2 (tr : Bool) (S0 : St) (out3 : PV) (t3 : Int) (t4 : PV) (y5 y6 : Int) (y7 : PV) (k : Option Tk) (y8 y9 : Int) (S : St) : Rs := lAt P (T tr) 152 Tryz.f152 [1, 0, 1, 4, 5, 1, 1, 0, 4, 1, 1, 0, 1, 4] S0 ⟨E 40 [(0, .v out3 none), (3, .box [((.int .i64 t3), none), (t4, none)]), (9, .v t4 none), (10, .v (.int .i64 y5) none), (11, .v (.int .i64 y6) none), (17, .v y7 k), (18, .v (.int .i64 y8) none), (19, .v (.int .i64 y9) none)], []⟩ S
abbrev inter_write_J1_t := St → PV → Int → PV → PV → PV → Int → Int → PV → Option Tk → Int → Int → St → Rs
def inter_write_J1 (tr : Bool) (S0 : St) (out4 : PV) (t5 : Int) (t6 x x2 : PV) (y12 y13 : Int) (y14 : PV) (k2 : Option Tk) (y15 y16 : Int) (S : St) : Rs := jAt P (T tr) 152 Tryz.f152 [1, 0, 1, 4, 5, 1, 1, 0, 4, 1, 1, 0, 1, 4, 5, 1, 1, 0, 4, 1, 1] S0 ⟨E 40 [(0, .v out4 none), (3, .box [((.int .i64 t5), none), (t6, none)]), (7, .box [(x, none), (x2, none)]), (9, .v t6 none), (10, .v (.int .i64 y12) none), (11, .v (.int .i64 y13) none), (17, .v y14 k2), (18, .v (.int .i64 y15) none), (19, .v (.int .i64 y16) none)], []⟩ S
def inter_write_L1_b (tr : Bool) (C : CallF) (L2 : inter_write_L2_t) (S0 : St) (out2 : PV) (t : Int) (t2 : PV) (y y2 : Int) (S : St) : Rs :=
  if (decide (y2 < y)) then
    (iadr 1 t2 y2).bind fun y3 =>
    (ldV (some S) false 1 y3).bind fun y4 =>
    (C n_strings_Builder_WriteByte [out2, (.int .u8 91)] S).bind fun r_ =>
    (lenSl y4.1).bind fun n2 =>
    L2 S0 out2 t t2 y y2 y4.1 y4.2 n2 0 r_.2
  else
    (C n_strconv_Itoa [(.int .i64 t)] S).bind fun r_5 =>
    (strOf r_5.1).bind fun y17 =>
    (C n_strings_Builder_WriteString [out2, (.str y17)] r_5.2).bind fun r_6 =>
    some (fin tr S0 (.tup []) r_6.2)
theorem inter_write_L1_of {tr S0 out2 t t2 y y2 S} : Lf (inter_write_L1_b tr (R tr) (inter_write_L2 tr) S0 out2 t t2 y y2 S) (inter_write_L1 tr S0 out2 t t2 y y2 S) := lfL (by kernel_rfl)
def inter_write_L2_b (tr : Bool) (C : CallF) (J1 : inter_write_J1_t) (L1 : inter_write_L1_t) (S0 : St) (out3 : PV) (t3 : Int) (t4 : PV) (y5 y6 : Int) (y7 : PV) (k : Option Tk) (y8 y9 : Int) (S : St) : Rs :=
  if (decide (y9 < y8)) then
    (iadr 2 y7 y9).bind fun y10 =>
    (ldP (some S) true 2 y10).bind fun y11 =>
    (chk (y11.okCells 2)).bind fun _ =>
    if (decide (y9 > 0)) then
      (C n_strings_Builder_WriteByte [out3, (.int .u8 44)] S).bind fun r_2 =>
      J1 S0 out3 t3 t4 (y11.cell 0) (y11.cell 1) y5 y6 y7 k y8 y9 r_2.2
    else
      J1 S0 out3 t3 t4 (y11.cell 0) (y11.cell 1) y5 y6 y7 k y8 y9 S
  else
    (C n_strings_Builder_WriteByte [out3, (.int .u8 93)] S).bind fun r_4 =>
    L1 S0 out3 t3 t4 y5 (IntKind.wrap .i64 (y6 + 1)) r_4.2
theorem inter_write_L2_of {tr S0 out3 t3 t4 y5 y6 y7 k y8 y9 S} : Lf (inter_write_L2_b tr (R tr) (inter_write_J1 tr) (inter_write_L1 tr) S0 out3 t3 t4 y5 y6 y7 k y8 y9 S) (inter_write_L2 tr S0 out3 t3 t4 y5 y6 y7 k y8 y9 S) := lfL (by kernel_rfl)
def inter_write_J1_b (tr : Bool) (C : CallF) (L2 : inter_write_L2_t) (S0 : St) (out4 : PV) (t5 : Int) (t6 x x2 : PV) (y12 y13 : Int) (y14 : PV) (k2 : Option Tk) (y15 y16 : Int) (S : St) : Rs :=
  (C n_inter_write [out4, (.agg [x, x2])] S).bind fun r_3 =>
  L2 S0 out4 t5 t6 y12 y13 y14 k2 y15 (IntKind.wrap .i64 (y16 + 1)) r_3.2
theorem inter_write_J1_of {tr S0 out4 t5 t6 x x2 y12 y13 y14 k2 y15 y16 S} : Lf (inter_write_J1_b tr (R tr) (inter_write_L2 tr) S0 out4 t5 t6 x x2 y12 y13 y14 k2 y15 y16 S) (inter_write_J1 tr S0 out4 t5 t6 x x2 y12 y13 y14 k2 y15 y16 S) := lfJ (by kernel_rfl)
def inter_write_b (tr : Bool) (C : CallF) (L1 : inter_write_L1_t) (S0 : St) (out : PV) (t_State : Int) (t_Args : PV) : Rs :=
  (lenSl t_Args).bind fun n =>
  L1 S0 out t_State t_Args n 0 S0
theorem inter_write_of {tr S0 out t_State t_Args} : Lf (inter_write_b tr (R tr) (inter_write_L1 tr) S0 out t_State t_Args) (R tr n_inter_write [out, (.agg [(.int .i64 t_State), t_Args])] S0) := lfF (fn := Tryz.f152) (by kernel_rfl) Tryz.func152 (by kernel_rfl) (by kernel_rfl)
def judge_Judge_head_b (tr : Bool) (C : CallF) (S0 : St) (ji : Nat) (t types : PV) (ty_State : Int) (ty_Args : PV) : Rs :=
  (chk (t.one && true)).bind fun _ =>
  (ldP (some (((S0.new [((.ref ji 0), none)]).new [(t, none)]).new [((.int .i64 ty_State), none), (ty_Args, none)])) false 1 (.ref (S0.new [((.ref ji 0), none)]).objs.length 0)).bind fun y =>
  (nilV y).bind fun y2 =>
  (fadrV 2 y2).bind fun y3 =>
  (ldV (some (((S0.new [((.ref ji 0), none)]).new [(t, none)]).new [((.int .i64 ty_State), none), (ty_Args, none)])) false 1 y3).bind fun y4 =>
  (lenSl y4.1).bind fun n =>
  (stoP [] ((((S0.new [((.ref ji 0), none)]).new [(t, none)]).new [((.int .i64 ty_State), none), (ty_Args, none)]).new [((.int .i64 0), none)]) false 1 (.ref (((S0.new [((.ref ji 0), none)]).new [(t, none)]).new [((.int .i64 ty_State), none), (ty_Args, none)]).objs.length 0) [((.int .i64 n), none)]).bind fun w =>
  (C n_slices_ContainsFunc_of_api_Type [types, (.fn n_judge_Judge_head_1 [(.ref (((S0.new [((.ref ji 0), none)]).new [(t, none)]).new [((.int .i64 ty_State), none), (ty_Args, none)]).objs.length 0), (.ref ((S0.new [((.ref ji 0), none)]).new [(t, none)]).objs.length 0), (.ref S0.objs.length 0), (.ref (S0.new [((.ref ji 0), none)]).objs.length 0)])] w.2).bind fun r_ =>
  (Abs.asBool r_.1).bind fun y5 =>
  some (fin tr S0 (.bool y5) r_.2)
theorem judge_Judge_head_of {tr S0 ji t types ty_State ty_Args} : Lf (judge_Judge_head_b tr (R tr) S0 ji t types ty_State ty_Args) (R tr n_judge_Judge_head [(.ref ji 0), t, types, (.agg [(.int .i64 ty_State), ty_Args])] S0) := lfF (fn := Tryz.f154) (by kernel_rfl) Tryz.func154 (by kernel_rfl) (by kernel_rfl)
def judge_Judge_has_1_b (tr : Bool) (C : CallF) (S0 : St) (x_Kid x_State : Int) (y y2 y3 : PV) : Rs :=
  (ldP (some S0) false 1 y).bind fun y4 =>
  (ldP (some S0) false 1 y2).bind fun y5 =>
  (ldP (some S0) true 2 y3).bind fun y6 =>
  (C n_judge_Judge_met [y4, y5, y6, (.agg [(.int .i64 x_Kid), (.int .i64 x_State)])] S0).bind fun r_ =>
  (Abs.asBool r_.1).bind fun y7 =>
  some (fin tr S0 (.bool (!y7)) r_.2)
theorem judge_Judge_has_1_of {tr S0 x_Kid x_State y y2 y3} : Lf (judge_Judge_has_1_b tr (R tr) S0 x_Kid x_State y y2 y3) (R tr n_judge_Judge_has_1 [(.agg [(.int .i64 x_Kid), (.int .i64 x_State)]), y, y2, y3] S0) := lfF (fn := Tryz.f155) (by kernel_rfl) Tryz.func155 (by kernel_rfl) (by kernel_rfl)
def judge_Judge_met_b (tr : Bool) (C : CallF) (S0 : St) (ji : Nat) (t : PV) (ty_State : Int) (ty_Args : PV) (x_Kid x_State : Int) : Rs :=
  ((ldP (some (S0.new [((.int .i64 x_Kid), none), ((.int .i64 x_State), none)])) false 1 (.ref S0.objs.length 1)).bind (intOf .i64)).bind fun y =>
  ((ldP (some (S0.new [((.int .i64 x_Kid), none), ((.int .i64 x_State), none)])) false 1 (.ref S0.objs.length 0)).bind (intOf .i64)).bind fun y2 =>
  (nilV t).bind fun y3 =>
  (fadrV 2 y3).bind fun y4 =>
  (ldV (some (S0.new [((.int .i64 x_Kid), none), ((.int .i64 x_State), none)])) false 1 y4).bind fun y5 =>
  (lenSl y5.1).bind fun n =>
  if (decide (y2 < n)) then
    (nilV t).bind fun y6 =>
    (fadrV 2 y6).bind fun y7 =>
    (ldV (some (S0.new [((.int .i64 x_Kid), none), ((.int .i64 x_State), none)])) false 1 y7).bind fun y8 =>
    ((ldP (some (S0.new [((.int .i64 x_Kid), none), ((.int .i64 x_State), none)])) false 1 (.ref S0.objs.length 0)).bind (intOf .i64)).bind fun y9 =>
    (iadr 3 y8.1 y9).bind fun y10 =>
    (C n_judge_Judge_Has [(.ref ji 0), y10, (.agg [(.int .i64 y), .snil])] (S0.new [((.int .i64 x_Kid), none), ((.int .i64 x_State), none)])).bind fun r_ =>
    (Abs.asBool r_.1).bind fun y11 =>
    some (fin tr S0 (.bool y11) r_.2)
  else
    ((ldP (some (S0.new [((.int .i64 x_Kid), none), ((.int .i64 x_State), none)])) false 1 (.ref S0.objs.length 0)).bind (intOf .i64)).bind fun y12 =>
    (nilV t).bind fun y13 =>
    (fadrV 2 y13).bind fun y14 =>
    (ldV (some (S0.new [((.int .i64 x_Kid), none), ((.int .i64 x_State), none)])) false 1 y14).bind fun y15 =>
    (lenSl y15.1).bind fun n2 =>
    (iadr 1 ty_Args (IntKind.wrap .i64 (y12 - n2))).bind fun y16 =>
    (ldV (some (S0.new [((.int .i64 x_Kid), none), ((.int .i64 x_State), none)])) false 1 y16).bind fun y17 =>
    (C n_slices_ContainsFunc_of_api_Type [y17.1, (.fn n_judge_Judge_met_1 [(.ref S0.objs.length 0)])] (S0.new [((.int .i64 x_Kid), none), ((.int .i64 x_State), none)])).bind fun r_2 =>
    (Abs.asBool r_2.1).bind fun y18 =>
    some (fin tr S0 (.bool y18) r_2.2)
theorem judge_Judge_met_of {tr S0 ji t ty_State ty_Args x_Kid x_State} : Lf (judge_Judge_met_b tr (R tr) S0 ji t ty_State ty_Args x_Kid x_State) (R tr n_judge_Judge_met [(.ref ji 0), t, (.agg [(.int .i64 ty_State), ty_Args]), (.agg [(.int .i64 x_Kid), (.int .i64 x_State)])] S0) := lfF (fn := Tryz.f156) (by kernel_rfl) Tryz.func156 (by kernel_rfl) (by kernel_rfl)
abbrev vref02_head_J1_t := St → PV → PV → PV → Int → Int → PV → St → Rs
def vref02_head_J1 (tr : Bool) (S0 : St) (p p2 p3 : PV) (t t2 : Int) (t3 : PV) (S : St) : Rs := jAt P (T tr) 157 Tryz.f157 [1, 1, 1] S0 ⟨E 58 [(2, .box [(p, none), (p2, none), (p3, none)]), (3, .box [((.int .i64 t), none), ((.int .i64 t2), none), (t3, none)]), (4, .box [(.snil, none)])], []⟩ S
def vref02_head_J1_b (tr : Bool) (C : CallF) (S0 : St) (p p2 p3 : PV) (t t2 : Int) (t3 : PV) (S : St) : Rs :=
  some (fin tr S0 (.tup [(.agg [.snil]), (.bool false)]) S)
theorem vref02_head_J1_of {tr S0 p p2 p3 t t2 t3 S} : Lf (vref02_head_J1_b tr (R tr) S0 p p2 p3 t t2 t3 S) (vref02_head_J1 tr S0 p p2 p3 t t2 t3 S) := lfJ (by kernel_rfl)
def vref02_head_b (tr : Bool) (C : CallF) (J1 : vref02_head_J1_t) (S0 : St) (p_Syms p_Funs p_Params : PV) (t_Kind t_N : Int) (t_Args : PV) : Rs :=
  if (decide (t_N < 0)) then
    some (fin tr S0 (.tup [(.agg [.snil]), (.bool false)]) S0)
  else
    if (t_Kind == 0) then
      (lenSl p_Params).bind fun n =>
      if (decide (t_N < n)) then
        (iadr 1 p_Params t_N).bind fun y =>
        (ldP (some S0) true 1 y).bind fun y2 =>
        (chk (y2.okCells 1)).bind fun _ =>
        some (fin tr S0 (.tup [(.agg [(y2.cell 0)]), (.bool true)]) S0)
      else
        J1 S0 p_Syms p_Funs p_Params t_Kind t_N t_Args S0
    else
      if (t_Kind == 1) then
        (lenSl p_Funs).bind fun n2 =>
        if (decide (t_N < n2)) then
          (iadr 1 p_Funs t_N).bind fun y3 =>
          (ldP (some S0) true 1 y3).bind fun y4 =>
          (chk (y4.okCells 1)).bind fun _ =>
          some (fin tr S0 (.tup [(.agg [(y4.cell 0)]), (.bool true)]) S0)
        else
          J1 S0 p_Syms p_Funs p_Params t_Kind t_N t_Args S0
      else
        if (t_Kind == 2) then
          (lenSl p_Syms).bind fun n3 =>
          if (decide (t_N < n3)) then
            (iadr 2 p_Syms t_N).bind fun y5 =>
            (fadrV 1 y5).bind fun y6 =>
            ((ldP (some S0) false 1 y6).bind (intOf .i64)).bind fun y7 =>
            (chk (decide (y7 = y7) && decide (0 ≤ y7) && decide (0 < 1) && decide ((y7).toNat * 24 ≤ room) && decide ((y7).toNat ≤ room))).bind fun _ =>
            (chk ((PV.sl none 1 (List.replicate (y7).toNat (.agg [.snil]))).okCells 1)).bind fun _ =>
            some (fin tr S0 (.tup [(.agg [((PV.sl none 1 (List.replicate (y7).toNat (.agg [.snil]))).cell 0)]), (.bool true)]) S0)
          else
            J1 S0 p_Syms p_Funs p_Params t_Kind t_N t_Args S0
        else
          J1 S0 p_Syms p_Funs p_Params t_Kind t_N t_Args S0
theorem vref02_head_of {tr S0 p_Syms p_Funs p_Params t_Kind t_N t_Args} : Lf (vref02_head_b tr (R tr) (vref02_head_J1 tr) S0 p_Syms p_Funs p_Params t_Kind t_N t_Args) (R tr n_vref02_head [(.agg [p_Syms, p_Funs, p_Params]), (.agg [(.int .i64 t_Kind), (.int .i64 t_N), t_Args])] S0) := lfF (fn := Tryz.f157) (by kernel_rfl) Tryz.func157 (by kernel_rfl) (by kernel_rfl)
abbrev vref09_alternative_L1_t := St → PV → Int → Int → Int → Int → St → Rs
def vref09_alternative_L1 (tr : Bool) (S0 : St) (l2 : PV) (rank2 states2 y y2 : Int) (S : St) : Rs := lAt P (T tr) 161 Tryz.f161 [1, 0, 1, 4] S0 ⟨E 51 [(0, .v l2 none), (1, .v (.int .i64 rank2) none), (2, .v (.int .i64 states2) none), (9, .v l2 none), (10, .v (.int .i64 y) none), (11, .v (.int .i64 y2) none)], []⟩ S
abbrev vref09_alternative_J1_t := St → PV → Int → Int → Int → Int → Bool → St → Rs
def vref09_alternative_J1 (tr : Bool) (S0 : St) (l3 : PV) (rank3 states3 y12 y13 : Int) (y14 : Bool) (S : St) : Rs := jAt P (T tr) 161 Tryz.f161 [1, 0, 1, 4, 5, 1, 1, 0, 4, 1, 1] S0 ⟨E 51 [(0, .v l3 none), (1, .v (.int .i64 rank3) none), (2, .v (.int .i64 states3) none), (9, .v l3 none), (10, .v (.int .i64 y12) none), (11, .v (.int .i64 y13) none), (49, .v (.bool y14) none)], []⟩ S
def vref09_alternative_L1_b (tr : Bool) (C : CallF) (J1 : vref09_alternative_J1_t) (S0 : St) (l2 : PV) (rank2 states2 y y2 : Int) (S : St) : Rs :=
  if (decide (y2 < y)) then
    (iadr 2 l2 y2).bind fun y3 =>
    (ldP (some S) true 2 y3).bind fun y4 =>
    (chk (y4.okCells 2)).bind fun _ =>
    ((binA P .lss 3 (y4.cell 0) (.int .i64 0)).bind Abs.asBool).bind fun y5 =>
    if y5 then
      J1 S0 l2 rank2 states2 y y2 true S
    else
      ((binA P .geq 3 (y4.cell 0) (.int .i64 rank2)).bind Abs.asBool).bind fun y6 =>
      if y6 then
        J1 S0 l2 rank2 states2 y y2 true S
      else
        ((binA P .lss 3 (y4.cell 1) (.int .i64 0)).bind Abs.asBool).bind fun y7 =>
        if y7 then
          J1 S0 l2 rank2 states2 y y2 true S
        else
          ((binA P .geq 3 (y4.cell 1) (.int .i64 states2)).bind Abs.asBool).bind fun y8 =>
          if y8 then
            J1 S0 l2 rank2 states2 y y2 true S
          else
            if (decide (y2 > 0)) then
              (iadr 2 l2 (IntKind.wrap .i64 (y2 - 1))).bind fun y9 =>
              (ldP (some S) true 2 y9).bind fun y10 =>
              (C n_vref09_Before [y10, (.agg [(y4.cell 0), (y4.cell 1)])] S).bind fun r_ =>
              (intOf .i64 r_.1).bind fun y11 =>
              J1 S0 l2 rank2 states2 y y2 (decide (y11 ≥ 0)) r_.2
            else
              J1 S0 l2 rank2 states2 y y2 false S
  else
    some (fin tr S0 (.bool true) S)
theorem vref09_alternative_L1_of {tr S0 l2 rank2 states2 y y2 S} : Lf (vref09_alternative_L1_b tr (R tr) (vref09_alternative_J1 tr) S0 l2 rank2 states2 y y2 S) (vref09_alternative_L1 tr S0 l2 rank2 states2 y y2 S) := lfL (by kernel_rfl)
def vref09_alternative_J1_b (tr : Bool) (C : CallF) (L1 : vref09_alternative_L1_t) (S0 : St) (l3 : PV) (rank3 states3 y12 y13 : Int) (y14 : Bool) (S : St) : Rs :=
  if y14 then
    some (fin tr S0 (.bool false) S)
  else
    L1 S0 l3 rank3 states3 y12 (IntKind.wrap .i64 (y13 + 1)) S
theorem vref09_alternative_J1_of {tr S0 l3 rank3 states3 y12 y13 y14 S} : Lf (vref09_alternative_J1_b tr (R tr) (vref09_alternative_L1 tr) S0 l3 rank3 states3 y12 y13 y14 S) (vref09_alternative_J1 tr S0 l3 rank3 states3 y12 y13 y14 S) := lfJ (by kernel_rfl)
def vref09_alternative_b (tr : Bool) (C : CallF) (L1 : vref09_alternative_L1_t) (S0 : St) (l : PV) (rank states : Int) : Rs :=
  (lenSl l).bind fun n =>
  L1 S0 l rank states n 0 S0
theorem vref09_alternative_of {tr S0 l rank states} : Lf (vref09_alternative_b tr (R tr) (vref09_alternative_L1 tr) S0 l rank states) (R tr n_vref09_alternative [l, (.int .i64 rank), (.int .i64 states)] S0) := lfF (fn := Tryz.f161) (by kernel_rfl) Tryz.func161 (by kernel_rfl) (by kernel_rfl)
end
end Go.Proofs.YtjdknnlhhenpnaaGreatDoor
namespace Go.Proofs.YtjdknnlhhenpnaaGreatDoor
open Go Go.Abs
noncomputable section
abbrev vref09_Before_J1_t := St → Int → Int → Int → Int → Bool → St → Rs
def vref09_Before_J1 (tr : Bool) (S0 : St) (a a2 b b2 : Int) (y : Bool) (S : St) : Rs := jAt P (T tr) 162 Tryz.f162 [1, 0, 4, 1] S0 ⟨E 36 [(2, .box [((.int .i64 a), none), ((.int .i64 a2), none)]), (3, .box [((.int .i64 b), none), ((.int .i64 b2), none)]), (5, .v (.bool y) none)], []⟩ S
def vref09_Before_J1_b (tr : Bool) (C : CallF) (S0 : St) (a a2 b b2 : Int) (y : Bool) (S : St) : Rs :=
  if y then
    some (fin tr S0 (.int .i64 (-1)) S)
  else
    ((binA P .eql 66 (.agg [(.int .i64 a), (.int .i64 a2)]) (.agg [(.int .i64 b), (.int .i64 b2)])).bind Abs.asBool).bind fun y2 =>
    if y2 then
      some (fin tr S0 (.int .i64 0) S)
    else
      some (fin tr S0 (.int .i64 1) S)
theorem vref09_Before_J1_of {tr S0 a a2 b b2 y S} : Lf (vref09_Before_J1_b tr (R tr) S0 a a2 b b2 y S) (vref09_Before_J1 tr S0 a a2 b b2 y S) := lfJ (by kernel_rfl)
def vref09_Before_b (tr : Bool) (C : CallF) (J1 : vref09_Before_J1_t) (S0 : St) (a_Kid a_State b_Kid b_State : Int) : Rs :=
  if (a_Kid != b_Kid) then
    if (decide (a_Kid < b_Kid)) then
      J1 S0 a_Kid a_State b_Kid b_State true S0
    else
      if (a_Kid == b_Kid) then
        J1 S0 a_Kid a_State b_Kid b_State (decide (a_State < b_State)) S0
      else
        J1 S0 a_Kid a_State b_Kid b_State false S0
  else
    if (a_Kid == b_Kid) then
      J1 S0 a_Kid a_State b_Kid b_State (decide (a_State < b_State)) S0
    else
      J1 S0 a_Kid a_State b_Kid b_State false S0
theorem vref09_Before_of {tr S0 a_Kid a_State b_Kid b_State} : Lf (vref09_Before_b tr (R tr) (vref09_Before_J1 tr) S0 a_Kid a_State b_Kid b_State) (R tr n_vref09_Before [(.agg [(.int .i64 a_Kid), (.int .i64 a_State)]), (.agg [(.int .i64 b_Kid), (.int .i64 b_State)])] S0) := lfF (fn := Tryz.f162) (by kernel_rfl) Tryz.func162 (by kernel_rfl) (by kernel_rfl)
abbrev inter_measure_L1_t := St → PV → PV → Int → Int → Toks → St → Rs
def inter_measure_L1 (tr : Bool) (S0 : St) (left2 y4 : PV) (y5 y6 : Int) (ts : Toks) (S : St) : Rs := lAt P (T tr) 163 Tryz.f163 [1, 1, 1, 4] S0 ⟨E 35 [(1, .v left2 none), (14, .v y4 none), (15, .v (.int .i64 y5) none), (16, .v (.int .i64 y6) none)], ts⟩ S
abbrev inter_measure_L2_t := St → PV → PV → Int → Int → PV → Option Tk → Int → Int → Toks → St → Rs
def inter_measure_L2 (tr : Bool) (S0 : St) (left3 y9 : PV) (y10 y11 : Int) (y12 : PV) (k : Option Tk) (y13 y14 : Int) (ts : Toks) (S : St) : Rs := lAt P (T tr) 163 Tryz.f163 [1, 1, 1, 4, 5, 1, 1, 0, 4, 1, 1, 4] S0 ⟨E 35 [(1, .v left3 none), (14, .v y9 none), (15, .v (.int .i64 y10) none), (16, .v (.int .i64 y11) none), (20, .v y12 k), (21, .v (.int .i64 y13) none), (22, .v (.int .i64 y14) none)], ts⟩ S
def inter_measure_L1_b (tr : Bool) (C : CallF) (L2 : inter_measure_L2_t) (S0 : St) (left2 y4 : PV) (y5 y6 : Int) (ts : Toks) (S : St) : Rs :=
  if (decide (y6 < y5)) then
    (iadr 1 y4 y6).bind fun y7 =>
    (ldV (some S) false 1 y7).bind fun y8 =>
    (lenSl y8.1).bind fun n2 =>
    L2 S0 left2 y4 y5 y6 y8.1 y8.2 n2 0 ts S
  else
    some (fin tr S0 (.tup []) S)
theorem inter_measure_L1_of {tr S0 left2 y4 y5 y6 ts S} : Lf (inter_measure_L1_b tr (R tr) (inter_measure_L2 tr) S0 left2 y4 y5 y6 ts S) (inter_measure_L1 tr S0 left2 y4 y5 y6 ts S) := lfL (by kernel_rfl)
def inter_measure_L2_b (tr : Bool) (C : CallF) (L2 : inter_measure_L2_t) (L1 : inter_measure_L1_t) (S0 : St) (left3 y9 : PV) (y10 y11 : Int) (y12 : PV) (k : Option Tk) (y13 y14 : Int) (ts : Toks) (S : St) : Rs :=
  if (decide (y14 < y13)) then
    (iadr 2 y12 y14).bind fun y15 =>
    (ldP (some S) true 2 y15).bind fun y16 =>
    (chk (y16.okCells 2)).bind fun _ =>
    (nilV left3).bind fun y17 =>
    ((ldP (some S) false 1 y17).bind (intOf .i64)).bind fun y18 =>
    if (decide (y18 < 0)) then
      some (fin tr S0 (.tup []) S)
    else
      (C n_inter_measure [(.agg [(y16.cell 0), (y16.cell 1)]), left3] S).bind fun r_ =>
      L2 S0 left3 y9 y10 y11 y12 k y13 (IntKind.wrap .i64 (y14 + 1)) ts r_.2
  else
    L1 S0 left3 y9 y10 (IntKind.wrap .i64 (y11 + 1)) ts S
theorem inter_measure_L2_of {tr S0 left3 y9 y10 y11 y12 k y13 y14 ts S} : Lf (inter_measure_L2_b tr (R tr) (inter_measure_L2 tr) (inter_measure_L1 tr) S0 left3 y9 y10 y11 y12 k y13 y14 ts S) (inter_measure_L2 tr S0 left3 y9 y10 y11 y12 k y13 y14 ts S) := lfL (by kernel_rfl)
def inter_measure_b (tr : Bool) (C : CallF) (L1 : inter_measure_L1_t) (S0 : St) (t_State : Int) (t_Args left : PV) : Rs :=
  (nilV left).bind fun y =>
  ((ldP (some S0) false 1 y).bind (intOf .i64)).bind fun y2 =>
  (nilV left).bind fun y3 =>
  (stoP [] S0 false 1 y3 [((.int .i64 (IntKind.wrap .i64 (y2 - 1))), none)]).bind fun w =>
  (lenSl t_Args).bind fun n =>
  L1 S0 left t_Args n 0 w.1 w.2
theorem inter_measure_of {tr S0 t_State t_Args left} : Lf (inter_measure_b tr (R tr) (inter_measure_L1 tr) S0 t_State t_Args left) (R tr n_inter_measure [(.agg [(.int .i64 t_State), t_Args]), left] S0) := lfF (fn := Tryz.f163) (by kernel_rfl) Tryz.func163 (by kernel_rfl) (by kernel_rfl)
def vref01_begins_b (tr : Bool) (C : CallF) (S0 : St) (text : ByteArray) (at_ : Int) (what : ByteArray) : Rs :=
  if (decide ((IntKind.wrap .i64 ((Int.ofNat (ByteArray.size text)) - at_)) ≥ (Int.ofNat (ByteArray.size what)))) then
    ((strSlc (.str text) (some at_) (some (IntKind.wrap .i64 (at_ + (Int.ofNat (ByteArray.size what)))))).bind strOf).bind fun y =>
    some (fin tr S0 (.bool (ByteArray.toList y == ByteArray.toList what)) S0)
  else
    some (fin tr S0 (.bool false) S0)
theorem vref01_begins_of {tr S0 text at_ what} : Lf (vref01_begins_b tr (R tr) S0 text at_ what) (R tr n_vref01_begins [(.str text), (.int .i64 at_), (.str what)] S0) := lfF (fn := Tryz.f174) (by kernel_rfl) Tryz.func174 (by kernel_rfl) (by kernel_rfl)
abbrev vref03_index_L1_t := St → Bool → ByteArray → PV → PV → Int → St → Rs
def vref03_index_L1 (tr : Bool) (S0 : St) (symbol2 : Bool) (name2 : ByteArray) (s s2 : PV) (i : Int) (S : St) : Rs := lAt P (T tr) 175 Tryz.f175 [1, 0, 1, 4] S0 ⟨E 48 [(1, .v (.bool symbol2) none), (2, .v (.str name2) none), (3, .box [(s, none), (s2, none)]), (7, .v (.int .i64 i) none)], []⟩ S
abbrev vref03_index_J1_t := St → Bool → ByteArray → PV → PV → Int → Bool → St → Rs
def vref03_index_J1 (tr : Bool) (S0 : St) (symbol3 : Bool) (name3 : ByteArray) (s3 s4 : PV) (i2 : Int) (y : Bool) (S : St) : Rs := jAt P (T tr) 175 Tryz.f175 [1, 0, 1, 4, 5, 0, 1] S0 ⟨E 48 [(1, .v (.bool symbol3) none), (2, .v (.str name3) none), (3, .box [(s3, none), (s4, none)]), (7, .v (.int .i64 i2) none), (16, .v (.bool y) none)], []⟩ S
abbrev vref03_index_L2_t := St → Bool → ByteArray → PV → PV → Int → St → Rs
def vref03_index_L2 (tr : Bool) (S0 : St) (symbol4 : Bool) (name4 : ByteArray) (s5 s6 : PV) (i3 : Int) (S : St) : Rs := lAt P (T tr) 175 Tryz.f175 [1, 1, 0, 1, 4] S0 ⟨E 48 [(1, .v (.bool symbol4) none), (2, .v (.str name4) none), (3, .box [(s5, none), (s6, none)]), (8, .v (.int .i64 i3) none)], []⟩ S
abbrev vref03_index_J2_t := St → Bool → ByteArray → PV → PV → Int → Bool → St → Rs
def vref03_index_J2 (tr : Bool) (S0 : St) (symbol5 : Bool) (name5 : ByteArray) (s7 s8 : PV) (i4 : Int) (y5 : Bool) (S : St) : Rs := jAt P (T tr) 175 Tryz.f175 [1, 1, 0, 1, 4, 5, 0, 1] S0 ⟨E 48 [(1, .v (.bool symbol5) none), (2, .v (.str name5) none), (3, .box [(s7, none), (s8, none)]), (8, .v (.int .i64 i4) none), (36, .v (.bool y5) none)], []⟩ S
def vref03_index_L2_b (tr : Bool) (C : CallF) (J2 : vref03_index_J2_t) (S0 : St) (symbol4 : Bool) (name4 : ByteArray) (s5 s6 : PV) (i3 : Int) (S : St) : Rs :=
  if (!symbol4) then
    (lenSl s6).bind fun n2 =>
    J2 S0 symbol4 name4 s5 s6 i3 (decide (i3 < n2)) S
  else
    J2 S0 symbol4 name4 s5 s6 i3 false S
theorem vref03_index_L2_of {tr S0 symbol4 name4 s5 s6 i3 S} : Lf (vref03_index_L2_b tr (R tr) (vref03_index_J2 tr) S0 symbol4 name4 s5 s6 i3 S) (vref03_index_L2 tr S0 symbol4 name4 s5 s6 i3 S) := lfL (by kernel_rfl)
def vref03_index_J2_b (tr : Bool) (C : CallF) (L2 : vref03_index_L2_t) (S0 : St) (symbol5 : Bool) (name5 : ByteArray) (s7 s8 : PV) (i4 : Int) (y5 : Bool) (S : St) : Rs :=
  if y5 then
    (iadr 5 s8 i4).bind fun y6 =>
    (fadrV 0 y6).bind fun y7 =>
    ((ldP (some S) false 1 y7).bind strOf).bind fun y8 =>
    if (ByteArray.toList y8 == ByteArray.toList name5) then
      some (fin tr S0 (.int .i64 i4) S)
    else
      L2 S0 symbol5 name5 s7 s8 (IntKind.wrap .i64 (i4 + 1)) S
  else
    some (fin tr S0 (.int .i64 (-1)) S)
theorem vref03_index_J2_of {tr S0 symbol5 name5 s7 s8 i4 y5 S} : Lf (vref03_index_J2_b tr (R tr) (vref03_index_L2 tr) S0 symbol5 name5 s7 s8 i4 y5 S) (vref03_index_J2 tr S0 symbol5 name5 s7 s8 i4 y5 S) := lfJ (by kernel_rfl)
def vref03_index_L1_b (tr : Bool) (C : CallF) (J1 : vref03_index_J1_t) (S0 : St) (symbol2 : Bool) (name2 : ByteArray) (s s2 : PV) (i : Int) (S : St) : Rs :=
  if symbol2 then
    (lenSl s).bind fun n =>
    J1 S0 symbol2 name2 s s2 i (decide (i < n)) S
  else
    J1 S0 symbol2 name2 s s2 i false S
theorem vref03_index_L1_of {tr S0 symbol2 name2 s s2 i S} : Lf (vref03_index_L1_b tr (R tr) (vref03_index_J1 tr) S0 symbol2 name2 s s2 i S) (vref03_index_L1 tr S0 symbol2 name2 s s2 i S) := lfL (by kernel_rfl)
def vref03_index_J1_b (tr : Bool) (C : CallF) (L1 : vref03_index_L1_t) (L2 : vref03_index_L2_t) (S0 : St) (symbol3 : Bool) (name3 : ByteArray) (s3 s4 : PV) (i2 : Int) (y : Bool) (S : St) : Rs :=
  if y then
    (iadr 2 s3 i2).bind fun y2 =>
    (fadrV 0 y2).bind fun y3 =>
    ((ldP (some S) false 1 y3).bind strOf).bind fun y4 =>
    if (ByteArray.toList y4 == ByteArray.toList name3) then
      some (fin tr S0 (.int .i64 i2) S)
    else
      L1 S0 symbol3 name3 s3 s4 (IntKind.wrap .i64 (i2 + 1)) S
  else
    L2 S0 symbol3 name3 s3 s4 0 S
theorem vref03_index_J1_of {tr S0 symbol3 name3 s3 s4 i2 y S} : Lf (vref03_index_J1_b tr (R tr) (vref03_index_L1 tr) (vref03_index_L2 tr) S0 symbol3 name3 s3 s4 i2 y S) (vref03_index_J1 tr S0 symbol3 name3 s3 s4 i2 y S) := lfJ (by kernel_rfl)
def vref03_index_b (tr : Bool) (C : CallF) (L1 : vref03_index_L1_t) (S0 : St) (s_Syms s_Funs : PV) (symbol : Bool) (name : ByteArray) : Rs :=
  L1 S0 symbol name s_Syms s_Funs 0 S0
theorem vref03_index_of {tr S0 s_Syms s_Funs symbol name} : Lf (vref03_index_b tr (R tr) (vref03_index_L1 tr) S0 s_Syms s_Funs symbol name) (R tr n_vref03_index [(.agg [s_Syms, s_Funs]), (.bool symbol), (.str name)] S0) := lfF (fn := Tryz.f175) (by kernel_rfl) Tryz.func175 (by kernel_rfl) (by kernel_rfl)
abbrev term_Symbols_L1_t := St → PV → Nat → Int → Int → St → Rs
def term_Symbols_L1 (tr : Bool) (S0 : St) (l2 : PV) (id : Nat) (y y2 : Int) (S : St) : Rs := lAt P (T tr) 176 Tryz.f176 [1, 1, 0, 1, 4] S0 ⟨E 40 [(0, .v l2 none), (3, .v (.mp id) none), (7, .v l2 none), (8, .v (.int .i64 y) none), (9, .v (.int .i64 y2) none)], []⟩ S
abbrev term_Symbols_J1_t := St → PV → Nat → PV → PV → Int → Int → Bool → St → Rs
def term_Symbols_J1 (tr : Bool) (S0 : St) (l3 : PV) (id2 : Nat) (s s2 : PV) (y9 y10 : Int) (y11 : Bool) (S : St) : Rs := jAt P (T tr) 176 Tryz.f176 [1, 1, 0, 1, 4, 5, 1, 1, 0, 4, 1, 0, 1] S0 ⟨E 40 [(0, .v l3 none), (3, .v (.mp id2) none), (5, .box [(s, none), (s2, none)]), (7, .v l3 none), (8, .v (.int .i64 y9) none), (9, .v (.int .i64 y10) none), (32, .v (.bool y11) none)], []⟩ S
def term_Symbols_L1_b (tr : Bool) (C : CallF) (J1 : term_Symbols_J1_t) (S0 : St) (l2 : PV) (id : Nat) (y y2 : Int) (S : St) : Rs :=
  if (decide (y2 < y)) then
    (iadr 2 l2 y2).bind fun y3 =>
    (ldP (some S) true 2 y3).bind fun y4 =>
    (chk (y4.okCells 2)).bind fun _ =>
    (C n_term_Name [(y4.cell 0)] S).bind fun r_ =>
    (Abs.asBool r_.1).bind fun y5 =>
    if (!y5) then
      J1 S0 l2 id (y4.cell 0) (y4.cell 1) y y2 true r_.2
    else
      (mapEs r_.2 (.mp id)).bind fun es =>
      (findKey P r_.2 9 (y4.cell 0) es).bind fun found =>
      (Abs.asBool (found.getD (.bool false))).bind fun y6 =>
      if y6 then
        J1 S0 l2 id (y4.cell 0) (y4.cell 1) y y2 true r_.2
      else
        ((binA P .lss 3 (y4.cell 1) (.int .i64 0)).bind Abs.asBool).bind fun y7 =>
        if y7 then
          J1 S0 l2 id (y4.cell 0) (y4.cell 1) y y2 true r_.2
        else
          ((binA P .gtr 3 (y4.cell 1) (.int .i64 4)).bind Abs.asBool).bind fun y8 =>
          J1 S0 l2 id (y4.cell 0) (y4.cell 1) y y2 y8 r_.2
  else
    (lenSl l2).bind fun n2 =>
    some (fin tr S0 (.bool (decide (n2 ≤ 24))) S)
theorem term_Symbols_L1_of {tr S0 l2 id y y2 S} : Lf (term_Symbols_L1_b tr (R tr) (term_Symbols_J1 tr) S0 l2 id y y2 S) (term_Symbols_L1 tr S0 l2 id y y2 S) := lfL (by kernel_rfl)
def term_Symbols_J1_b (tr : Bool) (C : CallF) (L1 : term_Symbols_L1_t) (S0 : St) (l3 : PV) (id2 : Nat) (s s2 : PV) (y9 y10 : Int) (y11 : Bool) (S : St) : Rs :=
  if y11 then
    some (fin tr S0 (.bool false) S)
  else
    (upMap P S 9 (.mp id2) s (.bool true)).bind fun S_ =>
    L1 S0 l3 id2 y9 (IntKind.wrap .i64 (y10 + 1)) S_
theorem term_Symbols_J1_of {tr S0 l3 id2 s s2 y9 y10 y11 S} : Lf (term_Symbols_J1_b tr (R tr) (term_Symbols_L1 tr) S0 l3 id2 s s2 y9 y10 y11 S) (term_Symbols_J1 tr S0 l3 id2 s s2 y9 y10 y11 S) := lfJ (by kernel_rfl)
def term_Symbols_b (tr : Bool) (C : CallF) (L1 : term_Symbols_L1_t) (S0 : St) (l : PV) : Rs :=
  (lenSl l).bind fun n =>
  L1 S0 l S0.objs.length n 0 (S0.newMap)
theorem term_Symbols_of {tr S0 l} : Lf (term_Symbols_b tr (R tr) (term_Symbols_L1 tr) S0 l) (R tr n_term_Symbols [l] S0) := lfF (fn := Tryz.f176) (by kernel_rfl) Tryz.func176 (by kernel_rfl) (by kernel_rfl)
abbrev term_Name_J1_t := St → ByteArray → Bool → St → Rs
def term_Name_J1 (tr : Bool) (S0 : St) (s2 : ByteArray) (y3 : Bool) (S : St) : Rs := jAt P (T tr) 177 Tryz.f177 [1, 0, 1] S0 ⟨E 50 [(0, .v (.str s2) none), (22, .v (.bool y3) none)], []⟩ S
abbrev term_Name_L1_t := St → ByteArray → Int → Int → St → Rs
def term_Name_L1 (tr : Bool) (S0 : St) (s3 : ByteArray) (y4 y5 : Int) (S : St) : Rs := lAt P (T tr) 177 Tryz.f177 [1, 1, 0, 1, 4] S0 ⟨E 50 [(0, .v (.str s3) none), (24, .v (.int .i64 y4) none), (25, .v (.int .i64 y5) none)], []⟩ S
abbrev term_Name_J2_t := St → ByteArray → Int → Int → Bool → St → Rs
def term_Name_J2 (tr : Bool) (S0 : St) (s4 : ByteArray) (y7 y8 : Int) (y9 : Bool) (S : St) : Rs := jAt P (T tr) 177 Tryz.f177 [1, 1, 0, 1, 4, 5, 1, 1, 0, 4, 1, 1, 1] S0 ⟨E 50 [(0, .v (.str s4) none), (24, .v (.int .i64 y7) none), (25, .v (.int .i64 y8) none), (48, .v (.bool y9) none)], []⟩ S
def term_Name_L1_b (tr : Bool) (C : CallF) (J2 : term_Name_J2_t) (S0 : St) (s3 : ByteArray) (y4 y5 : Int) (S : St) : Rs :=
  if (decide (y5 < y4)) then
    ((idx (.str s3) y5).bind (intOf .u8)).bind fun y6 =>
    if (decide (y6 < 97)) then
      if (decide (y6 < 48)) then
        J2 S0 s3 y4 y5 (y6 != 95) S
      else
        if (decide (y6 > 57)) then
          J2 S0 s3 y4 y5 (y6 != 95) S
        else
          J2 S0 s3 y4 y5 false S
    else
      if (decide (y6 > 122)) then
        if (decide (y6 < 48)) then
          J2 S0 s3 y4 y5 (y6 != 95) S
        else
          if (decide (y6 > 57)) then
            J2 S0 s3 y4 y5 (y6 != 95) S
          else
            J2 S0 s3 y4 y5 false S
      else
        J2 S0 s3 y4 y5 false S
  else
    some (fin tr S0 (.bool true) S)
theorem term_Name_L1_of {tr S0 s3 y4 y5 S} : Lf (term_Name_L1_b tr (R tr) (term_Name_J2 tr) S0 s3 y4 y5 S) (term_Name_L1 tr S0 s3 y4 y5 S) := lfL (by kernel_rfl)
def term_Name_J2_b (tr : Bool) (C : CallF) (L1 : term_Name_L1_t) (S0 : St) (s4 : ByteArray) (y7 y8 : Int) (y9 : Bool) (S : St) : Rs :=
  if y9 then
    some (fin tr S0 (.bool false) S)
  else
    L1 S0 s4 y7 (IntKind.wrap .i64 (y8 + 1)) S
theorem term_Name_J2_of {tr S0 s4 y7 y8 y9 S} : Lf (term_Name_J2_b tr (R tr) (term_Name_L1 tr) S0 s4 y7 y8 y9 S) (term_Name_J2 tr S0 s4 y7 y8 y9 S) := lfJ (by kernel_rfl)
def term_Name_J1_b (tr : Bool) (C : CallF) (L1 : term_Name_L1_t) (S0 : St) (s2 : ByteArray) (y3 : Bool) (S : St) : Rs :=
  if y3 then
    some (fin tr S0 (.bool false) S)
  else
    L1 S0 s2 (Int.ofNat (ByteArray.size s2)) 0 S
theorem term_Name_J1_of {tr S0 s2 y3 S} : Lf (term_Name_J1_b tr (R tr) (term_Name_L1 tr) S0 s2 y3 S) (term_Name_J1 tr S0 s2 y3 S) := lfJ (by kernel_rfl)
def term_Name_b (tr : Bool) (C : CallF) (J1 : term_Name_J1_t) (S0 : St) (s : ByteArray) : Rs :=
  if ((Int.ofNat (ByteArray.size s)) == 0) then
    J1 S0 s true S0
  else
    if (decide ((Int.ofNat (ByteArray.size s)) > 24)) then
      J1 S0 s true S0
    else
      ((idx (.str s) 0).bind (intOf .u8)).bind fun y =>
      if (decide (y < 97)) then
        J1 S0 s true S0
      else
        ((idx (.str s) 0).bind (intOf .u8)).bind fun y2 =>
        J1 S0 s (decide (y2 > 122)) S0
theorem term_Name_of {tr S0 s} : Lf (term_Name_b tr (R tr) (term_Name_J1 tr) S0 s) (R tr n_term_Name [(.str s)] S0) := lfF (fn := Tryz.f177) (by kernel_rfl) Tryz.func177 (by kernel_rfl) (by kernel_rfl)
abbrev slices_IndexFunc_of_api_Need_L1_t := St → PV → PV → Int → Int → St → Rs
def slices_IndexFunc_of_api_Need_L1 (tr : Bool) (S0 : St) (s2 f2 : PV) (y y2 : Int) (S : St) : Rs := lAt P (T tr) 178 Tryz.f178 [1, 0, 1, 4] S0 ⟨E 19 [(0, .v s2 none), (1, .v f2 none), (7, .v (.int .i64 y) none), (8, .v (.int .i64 y2) none)], []⟩ S
def slices_IndexFunc_of_api_Need_L1_b (tr : Bool) (C : CallF) (L1 : slices_IndexFunc_of_api_Need_L1_t) (S0 : St) (s2 f2 : PV) (y y2 : Int) (S : St) : Rs :=
  if (decide (y2 < y)) then
    (iadr 2 s2 y2).bind fun y3 =>
    (ldP (some S) true 2 y3).bind fun y4 =>
    (callV C f2 [y4] S).bind fun r_ =>
    (Abs.asBool r_.1).bind fun y5 =>
    if y5 then
      some (fin tr S0 (.int .i64 y2) r_.2)
    else
      L1 S0 s2 f2 y (IntKind.wrap .i64 (y2 + 1)) r_.2
  else
    some (fin tr S0 (.int .i64 (-1)) S)
theorem slices_IndexFunc_of_api_Need_L1_of {tr S0 s2 f2 y y2 S} : Lf (slices_IndexFunc_of_api_Need_L1_b tr (R tr) (slices_IndexFunc_of_api_Need_L1 tr) S0 s2 f2 y y2 S) (slices_IndexFunc_of_api_Need_L1 tr S0 s2 f2 y y2 S) := lfL (by kernel_rfl)
def slices_IndexFunc_of_api_Need_b (tr : Bool) (C : CallF) (L1 : slices_IndexFunc_of_api_Need_L1_t) (S0 : St) (s f : PV) : Rs :=
  (lenSl s).bind fun n =>
  L1 S0 s f n 0 S0
theorem slices_IndexFunc_of_api_Need_of {tr S0 s f} : Lf (slices_IndexFunc_of_api_Need_b tr (R tr) (slices_IndexFunc_of_api_Need_L1 tr) S0 s f) (R tr n_slices_IndexFunc_of_api_Need [s, f] S0) := lfF (fn := Tryz.f178) (by kernel_rfl) Tryz.func178 (by kernel_rfl) (by kernel_rfl)
abbrev slices_CompareFunc_of_api_Need_L1_t := St → PV → PV → PV → Int → Int → St → Rs
def slices_CompareFunc_of_api_Need_L1 (tr : Bool) (S0 : St) (s12 s22 cmp2 : PV) (y y2 : Int) (S : St) : Rs := lAt P (T tr) 179 Tryz.f179 [1, 0, 1, 4] S0 ⟨E 39 [(0, .v s12 none), (1, .v s22 none), (2, .v cmp2 none), (11, .v s12 none), (12, .v (.int .i64 y) none), (13, .v (.int .i64 y2) none)], []⟩ S
def slices_CompareFunc_of_api_Need_L1_b (tr : Bool) (C : CallF) (L1 : slices_CompareFunc_of_api_Need_L1_t) (S0 : St) (s12 s22 cmp2 : PV) (y y2 : Int) (S : St) : Rs :=
  if (decide (y2 < y)) then
    (iadr 2 s12 y2).bind fun y3 =>
    (ldP (some S) true 2 y3).bind fun y4 =>
    (chk (y4.okCells 2)).bind fun _ =>
    (lenSl s22).bind fun n2 =>
    if (decide (y2 ≥ n2)) then
      some (fin tr S0 (.int .i64 1) S)
    else
      (iadr 2 s22 y2).bind fun y5 =>
      (ldP (some S) true 2 y5).bind fun y6 =>
      (chk (y6.okCells 2)).bind fun _ =>
      (callV C cmp2 [(.agg [(y4.cell 0), (y4.cell 1)]), (.agg [(y6.cell 0), (y6.cell 1)])] S).bind fun r_ =>
      (intOf .i64 r_.1).bind fun y7 =>
      if (y7 != 0) then
        some (fin tr S0 (.int .i64 y7) r_.2)
      else
        L1 S0 s12 s22 cmp2 y (IntKind.wrap .i64 (y2 + 1)) r_.2
  else
    (lenSl s12).bind fun n3 =>
    (lenSl s22).bind fun n4 =>
    if (decide (n3 < n4)) then
      some (fin tr S0 (.int .i64 (-1)) S)
    else
      some (fin tr S0 (.int .i64 0) S)
theorem slices_CompareFunc_of_api_Need_L1_of {tr S0 s12 s22 cmp2 y y2 S} : Lf (slices_CompareFunc_of_api_Need_L1_b tr (R tr) (slices_CompareFunc_of_api_Need_L1 tr) S0 s12 s22 cmp2 y y2 S) (slices_CompareFunc_of_api_Need_L1 tr S0 s12 s22 cmp2 y y2 S) := lfL (by kernel_rfl)
def slices_CompareFunc_of_api_Need_b (tr : Bool) (C : CallF) (L1 : slices_CompareFunc_of_api_Need_L1_t) (S0 : St) (s1 s2 cmp : PV) : Rs :=
  (lenSl s1).bind fun n =>
  L1 S0 s1 s2 cmp n 0 S0
theorem slices_CompareFunc_of_api_Need_of {tr S0 s1 s2 cmp} : Lf (slices_CompareFunc_of_api_Need_b tr (R tr) (slices_CompareFunc_of_api_Need_L1 tr) S0 s1 s2 cmp) (R tr n_slices_CompareFunc_of_api_Need [s1, s2, cmp] S0) := lfF (fn := Tryz.f179) (by kernel_rfl) Tryz.func179 (by kernel_rfl) (by kernel_rfl)
abbrev term_Place_head_J1_t := St → PV → PV → PV → Int → Int → PV → Bool → St → Rs
def term_Place_head_J1 (tr : Bool) (S0 : St) (p p2 p3 : PV) (t t2 : Int) (t3 : PV) (y : Bool) (S : St) : Rs := jAt P (T tr) 180 Tryz.f180 [1, 0, 4, 1, 3, 1] S0 ⟨E 68 [(2, .box [(p, none), (p2, none), (p3, none)]), (3, .box [((.int .i64 t), none), ((.int .i64 t2), none), (t3, none)]), (4, .box [(.snil, none)]), (10, .v (.bool y) none)], []⟩ S
abbrev term_Place_head_J2_t := St → PV → PV → PV → Int → Int → PV → Bool → St → Rs
def term_Place_head_J2 (tr : Bool) (S0 : St) (p4 p5 p6 : PV) (t4 t5 : Int) (t6 : PV) (y4 : Bool) (S : St) : Rs := jAt P (T tr) 180 Tryz.f180 [1, 0, 4, 1, 3, 1, 3, 1] S0 ⟨E 68 [(2, .box [(p4, none), (p5, none), (p6, none)]), (3, .box [((.int .i64 t4), none), ((.int .i64 t5), none), (t6, none)]), (4, .box [(.snil, none)]), (28, .v (.bool y4) none)], []⟩ S
abbrev term_Place_head_J3_t := St → PV → PV → PV → Int → Int → PV → Bool → St → Rs
def term_Place_head_J3 (tr : Bool) (S0 : St) (p7 p8 p9 : PV) (t7 t8 : Int) (t9 : PV) (y7 : Bool) (S : St) : Rs := jAt P (T tr) 180 Tryz.f180 [1, 0, 4, 1, 3, 1, 3, 1, 3, 1] S0 ⟨E 68 [(2, .box [(p7, none), (p8, none), (p9, none)]), (3, .box [((.int .i64 t7), none), ((.int .i64 t8), none), (t9, none)]), (4, .box [(.snil, none)]), (46, .v (.bool y7) none)], []⟩ S
abbrev term_Place_head_J4_t := St → PV → PV → PV → Int → Int → PV → St → Rs
def term_Place_head_J4 (tr : Bool) (S0 : St) (p10 p11 p12 : PV) (t10 t11 : Int) (t12 : PV) (S : St) : Rs := jAt P (T tr) 180 Tryz.f180 [1, 1] S0 ⟨E 68 [(2, .box [(p10, none), (p11, none), (p12, none)]), (3, .box [((.int .i64 t10), none), ((.int .i64 t11), none), (t12, none)]), (4, .box [(.snil, none)])], []⟩ S
def term_Place_head_J4_b (tr : Bool) (C : CallF) (S0 : St) (p10 p11 p12 : PV) (t10 t11 : Int) (t12 : PV) (S : St) : Rs :=
  some (fin tr S0 (.tup [(.agg [.snil]), (.bool false)]) S)
theorem term_Place_head_J4_of {tr S0 p10 p11 p12 t10 t11 t12 S} : Lf (term_Place_head_J4_b tr (R tr) S0 p10 p11 p12 t10 t11 t12 S) (term_Place_head_J4 tr S0 p10 p11 p12 t10 t11 t12 S) := lfJ (by kernel_rfl)
def term_Place_head_J1_b (tr : Bool) (C : CallF) (J2 : term_Place_head_J2_t) (S0 : St) (p p2 p3 : PV) (t t2 : Int) (t3 : PV) (y : Bool) (S : St) : Rs :=
  if y then
    (iadr 1 p3 t2).bind fun y2 =>
    (ldP (some S) true 1 y2).bind fun y3 =>
    (chk (y3.okCells 1)).bind fun _ =>
    some (fin tr S0 (.tup [(.agg [(y3.cell 0)]), (.bool true)]) S)
  else
    if (t == 1) then
      (lenSl p2).bind fun n2 =>
      J2 S0 p p2 p3 t t2 t3 (decide (t2 < n2)) S
    else
      J2 S0 p p2 p3 t t2 t3 false S
theorem term_Place_head_J1_of {tr S0 p p2 p3 t t2 t3 y S} : Lf (term_Place_head_J1_b tr (R tr) (term_Place_head_J2 tr) S0 p p2 p3 t t2 t3 y S) (term_Place_head_J1 tr S0 p p2 p3 t t2 t3 y S) := lfJ (by kernel_rfl)
def term_Place_head_J2_b (tr : Bool) (C : CallF) (J3 : term_Place_head_J3_t) (S0 : St) (p4 p5 p6 : PV) (t4 t5 : Int) (t6 : PV) (y4 : Bool) (S : St) : Rs :=
  if y4 then
    (iadr 1 p5 t5).bind fun y5 =>
    (ldP (some S) true 1 y5).bind fun y6 =>
    (chk (y6.okCells 1)).bind fun _ =>
    some (fin tr S0 (.tup [(.agg [(y6.cell 0)]), (.bool true)]) S)
  else
    if (t4 == 2) then
      (lenSl p4).bind fun n3 =>
      J3 S0 p4 p5 p6 t4 t5 t6 (decide (t5 < n3)) S
    else
      J3 S0 p4 p5 p6 t4 t5 t6 false S
theorem term_Place_head_J2_of {tr S0 p4 p5 p6 t4 t5 t6 y4 S} : Lf (term_Place_head_J2_b tr (R tr) (term_Place_head_J3 tr) S0 p4 p5 p6 t4 t5 t6 y4 S) (term_Place_head_J2 tr S0 p4 p5 p6 t4 t5 t6 y4 S) := lfJ (by kernel_rfl)
def term_Place_head_J3_b (tr : Bool) (C : CallF) (J4 : term_Place_head_J4_t) (S0 : St) (p7 p8 p9 : PV) (t7 t8 : Int) (t9 : PV) (y7 : Bool) (S : St) : Rs :=
  if y7 then
    (iadr 2 p7 t8).bind fun y8 =>
    (fadrV 1 y8).bind fun y9 =>
    ((ldP (some S) false 1 y9).bind (intOf .i64)).bind fun y10 =>
    (chk (decide (y10 = y10) && decide (0 ≤ y10) && decide (0 < 1) && decide ((y10).toNat * 24 ≤ room) && decide ((y10).toNat ≤ room))).bind fun _ =>
    (chk ((PV.sl none 1 (List.replicate (y10).toNat (.agg [.snil]))).okCells 1)).bind fun _ =>
    some (fin tr S0 (.tup [(.agg [((PV.sl none 1 (List.replicate (y10).toNat (.agg [.snil]))).cell 0)]), (.bool true)]) S)
  else
    J4 S0 p7 p8 p9 t7 t8 t9 S
theorem term_Place_head_J3_of {tr S0 p7 p8 p9 t7 t8 t9 y7 S} : Lf (term_Place_head_J3_b tr (R tr) (term_Place_head_J4 tr) S0 p7 p8 p9 t7 t8 t9 y7 S) (term_Place_head_J3 tr S0 p7 p8 p9 t7 t8 t9 y7 S) := lfJ (by kernel_rfl)
def term_Place_head_b (tr : Bool) (C : CallF) (J1 : term_Place_head_J1_t) (J4 : term_Place_head_J4_t) (S0 : St) (p_Syms p_Funs p_Params : PV) (t_Kind t_N : Int) (t_Args : PV) : Rs :=
  if (decide (t_N < 0)) then
    J4 S0 p_Syms p_Funs p_Params t_Kind t_N t_Args S0
  else
    if (t_Kind == 0) then
      (lenSl p_Params).bind fun n =>
      J1 S0 p_Syms p_Funs p_Params t_Kind t_N t_Args (decide (t_N < n)) S0
    else
      J1 S0 p_Syms p_Funs p_Params t_Kind t_N t_Args false S0
theorem term_Place_head_of {tr S0 p_Syms p_Funs p_Params t_Kind t_N t_Args} : Lf (term_Place_head_b tr (R tr) (term_Place_head_J1 tr) (term_Place_head_J4 tr) S0 p_Syms p_Funs p_Params t_Kind t_N t_Args) (R tr n_term_Place_head [(.agg [p_Syms, p_Funs, p_Params]), (.agg [(.int .i64 t_Kind), (.int .i64 t_N), t_Args])] S0) := lfF (fn := Tryz.f180) (by kernel_rfl) Tryz.func180 (by kernel_rfl) (by kernel_rfl)
def sorts_Same_b (tr : Bool) (C : CallF) (S0 : St) (a_Args b_Args : PV) : Rs :=
  (C n_sorts_Size [(.agg [a_Args])] S0).bind fun r_ =>
  (chk (decide (0 < r_.1.comps.length))).bind fun _ =>
  (intOf .i64 (r_.1.comps.getD 0 .undef)).bind fun y =>
  (chk (decide (1 < r_.1.comps.length))).bind fun _ =>
  (intOf .i64 (r_.1.comps.getD 1 .undef)).bind fun y2 =>
  (C n_sorts_Size [(.agg [b_Args])] r_.2).bind fun r_2 =>
  (chk (decide (0 < r_2.1.comps.length))).bind fun _ =>
  (intOf .i64 (r_2.1.comps.getD 0 .undef)).bind fun y3 =>
  (chk (decide (1 < r_2.1.comps.length))).bind fun _ =>
  (intOf .i64 (r_2.1.comps.getD 1 .undef)).bind fun y4 =>
  if (decide (y ≤ 60)) then
    if (y == y3) then
      (C n_sorts_same [(.agg [a_Args]), (.agg [b_Args])] r_2.2).bind fun r_3 =>
      (Abs.asBool r_3.1).bind fun y5 =>
      some (fin tr S0 (.bool y5) r_3.2)
    else
      some (fin tr S0 (.bool false) r_2.2)
  else
    some (fin tr S0 (.bool false) r_2.2)
theorem sorts_Same_of {tr S0 a_Args b_Args} : Lf (sorts_Same_b tr (R tr) S0 a_Args b_Args) (R tr n_sorts_Same [(.agg [a_Args]), (.agg [b_Args])] S0) := lfF (fn := Tryz.f181) (by kernel_rfl) Tryz.func181 (by kernel_rfl) (by kernel_rfl)
def strconv_Itoa_b (tr : Bool) (C : CallF) (S0 : St) (i : Int) : Rs :=
  (C n_internal_strconv_Itoa [(.int .i64 i)] S0).bind fun r_ =>
  (strOf r_.1).bind fun y =>
  some (fin tr S0 (.str y) r_.2)
theorem strconv_Itoa_of {tr S0 i} : Lf (strconv_Itoa_b tr (R tr) S0 i) (R tr n_strconv_Itoa [(.int .i64 i)] S0) := lfF (fn := Tryz.f184) (by kernel_rfl) Tryz.func184 (by kernel_rfl) (by kernel_rfl)
abbrev judge_Judge_head_1_L1_t := St → PV → PV → PV → Option Tk → Int → Int → Toks → St → Rs
def judge_Judge_head_1_L1 (tr : Bool) (S0 : St) (y11 y12 y13 : PV) (k : Option Tk) (y14 y15 : Int) (ts : Toks) (S : St) : Rs := lAt P (T tr) 185 Tryz.f185 [1, 1, 0, 1, 4] S0 ⟨E 33 [(3, .v y11 none), (4, .v y12 none), (22, .v y13 k), (23, .v (.int .i64 y14) none), (24, .v (.int .i64 y15) none)], ts⟩ S
def judge_Judge_head_1_L1_b (tr : Bool) (C : CallF) (L1 : judge_Judge_head_1_L1_t) (S0 : St) (y11 y12 y13 : PV) (k : Option Tk) (y14 y15 : Int) (ts : Toks) (S : St) : Rs :=
  if (decide (y15 < y14)) then
    (iadr 1 y13 y15).bind fun y16 =>
    (ldV (some S) false 1 y16).bind fun y17 =>
    (stoP ts (S.new [((.int .i64 0), none)]) false 1 (.ref S.objs.length 0) [((.int .i64 y15), none)]).bind fun w =>
    (C n_slices_ContainsFunc_of_api_Type [y17.1, (.fn n_judge_Judge_head_1_1 [y11, y12, (.ref S.objs.length 0)])] w.2).bind fun r_2 =>
    (Abs.asBool r_2.1).bind fun y18 =>
    if y18 then
      some (fin tr S0 (.bool false) r_2.2)
    else
      L1 S0 y11 y12 y13 k y14 (IntKind.wrap .i64 (y15 + 1)) w.1 r_2.2
  else
    some (fin tr S0 (.bool true) S)
theorem judge_Judge_head_1_L1_of {tr S0 y11 y12 y13 k y14 y15 ts S} : Lf (judge_Judge_head_1_L1_b tr (R tr) (judge_Judge_head_1_L1 tr) S0 y11 y12 y13 k y14 y15 ts S) (judge_Judge_head_1_L1 tr S0 y11 y12 y13 k y14 y15 ts S) := lfL (by kernel_rfl)
def judge_Judge_head_1_b (tr : Bool) (C : CallF) (L1 : judge_Judge_head_1_L1_t) (S0 : St) (r_State : Int) (r_Args y y2 y3 y4 : PV) : Rs :=
  ((ldP (some S0) false 1 y).bind (intOf .i64)).bind fun y5 =>
  (slc 1 r_Args (some y5) none none).bind fun y6 =>
  (chk (y6.1.okCells 1)).bind fun _ =>
  (ldP (some S0) true 2 y2).bind fun y7 =>
  (C n_inter_Strong [(.agg [(.int .i64 r_State), (y6.1.cell 0)]), y7] S0).bind fun r_ =>
  (Abs.asBool r_.1).bind fun y8 =>
  if (!y8) then
    some (fin tr S0 (.bool false) r_.2)
  else
    ((ldP (some r_.2) false 1 y).bind (intOf .i64)).bind fun y9 =>
    (slc 1 r_Args none (some y9) none).bind fun y10 =>
    (lenSl y10.1).bind fun n =>
    L1 S0 y3 y4 y10.1 y10.2 n 0 ([]) r_.2
theorem judge_Judge_head_1_of {tr S0 r_State r_Args y y2 y3 y4} : Lf (judge_Judge_head_1_b tr (R tr) (judge_Judge_head_1_L1 tr) S0 r_State r_Args y y2 y3 y4) (R tr n_judge_Judge_head_1 [(.agg [(.int .i64 r_State), r_Args]), y, y2, y3, y4] S0) := lfF (fn := Tryz.f185) (by kernel_rfl) Tryz.func185 (by kernel_rfl) (by kernel_rfl)
end
end Go.Proofs.YtjdknnlhhenpnaaGreatDoor
namespace Go.Proofs.YtjdknnlhhenpnaaGreatDoor
open Go Go.Abs
noncomputable section
def judge_Judge_head_1_1_b (tr : Bool) (C : CallF) (S0 : St) (x_State : Int) (x_Args y y2 y3 : PV) : Rs :=
  (ldP (some S0) false 1 y).bind fun y4 =>
  (ldP (some S0) false 1 y2).bind fun y5 =>
  (nilV y5).bind fun y6 =>
  (fadrV 2 y6).bind fun y7 =>
  (ldV (some S0) false 1 y7).bind fun y8 =>
  ((ldP (some S0) false 1 y3).bind (intOf .i64)).bind fun y9 =>
  (iadr 3 y8.1 y9).bind fun y10 =>
  (C n_judge_Judge_Has [y4, y10, (.agg [(.int .i64 x_State), x_Args])] S0).bind fun r_ =>
  (Abs.asBool r_.1).bind fun y11 =>
  some (fin tr S0 (.bool (!y11)) r_.2)
theorem judge_Judge_head_1_1_of {tr S0 x_State x_Args y y2 y3} : Lf (judge_Judge_head_1_1_b tr (R tr) S0 x_State x_Args y y2 y3) (R tr n_judge_Judge_head_1_1 [(.agg [(.int .i64 x_State), x_Args]), y, y2, y3] S0) := lfF (fn := Tryz.f186) (by kernel_rfl) Tryz.func186 (by kernel_rfl) (by kernel_rfl)
def judge_Judge_met_1_b (tr : Bool) (C : CallF) (S0 : St) (y_State : Int) (y_Args y : PV) : Rs :=
  (fadrV 1 y).bind fun y2 =>
  ((ldP (some S0) false 1 y2).bind (intOf .i64)).bind fun y3 =>
  some (fin tr S0 (.bool (y_State == y3)) S0)
theorem judge_Judge_met_1_of {tr S0 y_State y_Args y} : Lf (judge_Judge_met_1_b tr (R tr) S0 y_State y_Args y) (R tr n_judge_Judge_met_1 [(.agg [(.int .i64 y_State), y_Args]), y] S0) := lfF (fn := Tryz.f187) (by kernel_rfl) Tryz.func187 (by kernel_rfl) (by kernel_rfl)
abbrev sorts_same_L1_t := St → PV → PV → Int → Int → St → Rs
def sorts_same_L1 (tr : Bool) (S0 : St) (a b : PV) (y y2 : Int) (S : St) : Rs := lAt P (T tr) 196 Tryz.f196 [1, 1, 0, 1, 4] S0 ⟨E 32 [(2, .box [(a, none)]), (3, .box [(b, none)]), (15, .v (.int .i64 y) none), (16, .v (.int .i64 y2) none)], []⟩ S
def sorts_same_L1_b (tr : Bool) (C : CallF) (L1 : sorts_same_L1_t) (S0 : St) (a b : PV) (y y2 : Int) (S : St) : Rs :=
  if (decide (y2 < y)) then
    (iadr 1 a y2).bind fun y3 =>
    (ldP (some S) true 1 y3).bind fun y4 =>
    (iadr 1 b y2).bind fun y5 =>
    (ldP (some S) true 1 y5).bind fun y6 =>
    (C n_sorts_same [y4, y6] S).bind fun r_ =>
    (Abs.asBool r_.1).bind fun y7 =>
    if (!y7) then
      some (fin tr S0 (.bool false) r_.2)
    else
      L1 S0 a b y (IntKind.wrap .i64 (y2 + 1)) r_.2
  else
    some (fin tr S0 (.bool true) S)
theorem sorts_same_L1_of {tr S0 a b y y2 S} : Lf (sorts_same_L1_b tr (R tr) (sorts_same_L1 tr) S0 a b y y2 S) (sorts_same_L1 tr S0 a b y y2 S) := lfL (by kernel_rfl)
def sorts_same_b (tr : Bool) (C : CallF) (L1 : sorts_same_L1_t) (S0 : St) (a_Args b_Args : PV) : Rs :=
  (lenSl a_Args).bind fun n =>
  (lenSl b_Args).bind fun n2 =>
  if (n != n2) then
    some (fin tr S0 (.bool false) S0)
  else
    (lenSl a_Args).bind fun n3 =>
    L1 S0 a_Args b_Args n3 0 S0
theorem sorts_same_of {tr S0 a_Args b_Args} : Lf (sorts_same_b tr (R tr) (sorts_same_L1 tr) S0 a_Args b_Args) (R tr n_sorts_same [(.agg [a_Args]), (.agg [b_Args])] S0) := lfF (fn := Tryz.f196) (by kernel_rfl) Tryz.func196 (by kernel_rfl) (by kernel_rfl)
def internal_strconv_Itoa_b (tr : Bool) (C : CallF) (S0 : St) (i : Int) : Rs :=
  (C n_internal_strconv_FormatInt [(.int .i64 i), (.int .i64 10)] S0).bind fun r_ =>
  (strOf r_.1).bind fun y =>
  some (fin tr S0 (.str y) r_.2)
theorem internal_strconv_Itoa_of {tr S0 i} : Lf (internal_strconv_Itoa_b tr (R tr) S0 i) (R tr n_internal_strconv_Itoa [(.int .i64 i)] S0) := lfF (fn := Tryz.f198) (by kernel_rfl) Tryz.func198 (by kernel_rfl) (by kernel_rfl)
abbrev internal_strconv_FormatInt_J1_t := St → Int → Bool → Toks → St → Rs
def internal_strconv_FormatInt_J1 (tr : Bool) (S0 : St) (i2 : Int) (y : Bool) (ts : Toks) (S : St) : Rs := jAt P (T tr) 202 Tryz.f202 [1, 0, 1, 2, 0, 1] S0 ⟨E 54 [(0, .v (.int .i64 i2) none), (17, .v (.bool y) none)], ts⟩ S
abbrev internal_strconv_FormatInt_J2_t := St → Int → Nat → Int → Toks → St → Rs
def internal_strconv_FormatInt_J2 (tr : Bool) (S0 : St) (i3 : Int) (id : Nat) (u : Int) (ts : Toks) (S : St) : Rs := jAt P (T tr) 202 Tryz.f202 [1, 0, 1, 2, 1, 1, 1, 1] S0 ⟨E 54 [(0, .v (.int .i64 i3) none), (5, .v (.ref id 0) none), (6, .v (.int .u64 u) none)], ts⟩ S
def internal_strconv_FormatInt_J2_b (tr : Bool) (C : CallF) (S0 : St) (i3 : Int) (id : Nat) (u : Int) (ts : Toks) (S : St) : Rs :=
  (C n_internal_strconv_numDigits [(.int .u64 u)] S).bind fun r_2 =>
  (intOf .i64 r_2.1).bind fun y3 =>
  (slc 2 (.ref id 0) (some 1) (some (IntKind.wrap .i64 (1 + y3))) none).bind fun y4 =>
  (C n_internal_strconv_formatBase10 [y4.1, (.int .u64 u)] r_2.2).bind fun r_3 =>
  if (decide (i3 < 0)) then
    none
  else
    (slc 2 (.ref id 0) (some 1) (some (IntKind.wrap .i64 (1 + y3))) none).bind fun y5 =>
    ((convA P 211 9 y5.1).bind strOf).bind fun y6 =>
    some (fin tr S0 (.str y6) r_3.2)
theorem internal_strconv_FormatInt_J2_of {tr S0 i3 id u ts S} : Lf (internal_strconv_FormatInt_J2_b tr (R tr) S0 i3 id u ts S) (internal_strconv_FormatInt_J2 tr S0 i3 id u ts S) := lfJ (by kernel_rfl)
def internal_strconv_FormatInt_J1_b (tr : Bool) (C : CallF) (J2 : internal_strconv_FormatInt_J2_t) (S0 : St) (i2 : Int) (y : Bool) (ts : Toks) (S : St) : Rs :=
  if y then
    (C n_internal_strconv_small [(.int .i64 i2)] S).bind fun r_ =>
    (strOf r_.1).bind fun y2 =>
    some (fin tr S0 (.str y2) r_.2)
  else
    if (decide (i2 < 0)) then
      J2 S0 i2 S.objs.length (IntKind.wrap .u64 (0 - (IntKind.wrap .u64 i2))) ts (S.new [((.int .u8 0), none), ((.int .u8 0), none), ((.int .u8 0), none), ((.int .u8 0), none), ((.int .u8 0), none), ((.int .u8 0), none), ((.int .u8 0), none), ((.int .u8 0), none), ((.int .u8 0), none), ((.int .u8 0), none), ((.int .u8 0), none), ((.int .u8 0), none), ((.int .u8 0), none), ((.int .u8 0), none), ((.int .u8 0), none), ((.int .u8 0), none), ((.int .u8 0), none), ((.int .u8 0), none), ((.int .u8 0), none), ((.int .u8 0), none), ((.int .u8 0), none), ((.int .u8 0), none), ((.int .u8 0), none), ((.int .u8 0), none)])
    else
      J2 S0 i2 S.objs.length (IntKind.wrap .u64 i2) ts (S.new [((.int .u8 0), none), ((.int .u8 0), none), ((.int .u8 0), none), ((.int .u8 0), none), ((.int .u8 0), none), ((.int .u8 0), none), ((.int .u8 0), none), ((.int .u8 0), none), ((.int .u8 0), none), ((.int .u8 0), none), ((.int .u8 0), none), ((.int .u8 0), none), ((.int .u8 0), none), ((.int .u8 0), none), ((.int .u8 0), none), ((.int .u8 0), none), ((.int .u8 0), none), ((.int .u8 0), none), ((.int .u8 0), none), ((.int .u8 0), none), ((.int .u8 0), none), ((.int .u8 0), none), ((.int .u8 0), none), ((.int .u8 0), none)])
theorem internal_strconv_FormatInt_J1_of {tr S0 i2 y ts S} : Lf (internal_strconv_FormatInt_J1_b tr (R tr) (internal_strconv_FormatInt_J2 tr) S0 i2 y ts S) (internal_strconv_FormatInt_J1 tr S0 i2 y ts S) := lfJ (by kernel_rfl)
def internal_strconv_FormatInt_b (tr : Bool) (C : CallF) (J1 : internal_strconv_FormatInt_J1_t) (S0 : St) (i base : Int) : Rs :=
  if (base == 10) then
    if (decide (0 ≤ i)) then
      J1 S0 i (decide (i < 100)) ([]) S0
    else
      J1 S0 i false ([]) S0
  else
    (C n_internal_strconv_formatBits [.snil, (.int .u64 (IntKind.wrap .u64 i)), (.int .i64 base), (.bool (decide (i < 0))), (.bool false)] S0).bind fun r_4 =>
    (chk (decide (0 < r_4.1.comps.length))).bind fun _ =>
    (chk (decide (1 < r_4.1.comps.length))).bind fun _ =>
    (strOf (r_4.1.comps.getD 1 .undef)).bind fun y7 =>
    some (fin tr S0 (.str y7) r_4.2)
theorem internal_strconv_FormatInt_of {tr S0 i base} : Lf (internal_strconv_FormatInt_b tr (R tr) (internal_strconv_FormatInt_J1 tr) S0 i base) (R tr n_internal_strconv_FormatInt [(.int .i64 i), (.int .i64 base)] S0) := lfF (fn := Tryz.f202) (by kernel_rfl) Tryz.func202 (by kernel_rfl) (by kernel_rfl)
def internal_strconv_small_b (tr : Bool) (C : CallF) (S0 : St) (i : Int) : Rs :=
  if (decide (i < 10)) then
    ((strSlc (.str { data := #[48, 49, 50, 51, 52, 53, 54, 55, 56, 57, 97, 98, 99, 100, 101, 102, 103, 104, 105, 106, 107, 108, 109, 110, 111, 112, 113, 114, 115, 116, 117, 118, 119, 120, 121, 122] }) (some i) (some (IntKind.wrap .i64 (i + 1)))).bind strOf).bind fun y =>
    some (fin tr S0 (.str y) S0)
  else
    ((strSlc (.str { data := #[48, 48, 48, 49, 48, 50, 48, 51, 48, 52, 48, 53, 48, 54, 48, 55, 48, 56, 48, 57, 49, 48, 49, 49, 49, 50, 49, 51, 49, 52, 49, 53, 49, 54, 49, 55, 49, 56, 49, 57, 50, 48, 50, 49, 50, 50, 50, 51, 50, 52, 50, 53, 50, 54, 50, 55, 50, 56, 50, 57, 51, 48, 51, 49, 51, 50, 51, 51, 51, 52, 51, 53, 51, 54, 51, 55, 51, 56, 51, 57, 52, 48, 52, 49, 52, 50, 52, 51, 52, 52, 52, 53, 52, 54, 52, 55, 52, 56, 52, 57, 53, 48, 53, 49, 53, 50, 53, 51, 53, 52, 53, 53, 53, 54, 53, 55, 53, 56, 53, 57, 54, 48, 54, 49, 54, 50, 54, 51, 54, 52, 54, 53, 54, 54, 54, 55, 54, 56, 54, 57, 55, 48, 55, 49, 55, 50, 55, 51, 55, 52, 55, 53, 55, 54, 55, 55, 55, 56, 55, 57, 56, 48, 56, 49, 56, 50, 56, 51, 56, 52, 56, 53, 56, 54, 56, 55, 56, 56, 56, 57, 57, 48, 57, 49, 57, 50, 57, 51, 57, 52, 57, 53, 57, 54, 57, 55, 57, 56, 57, 57] }) (some (IntKind.wrap .i64 (i * 2))) (some (IntKind.wrap .i64 ((IntKind.wrap .i64 (i * 2)) + 2)))).bind strOf).bind fun y2 =>
    some (fin tr S0 (.str y2) S0)
theorem internal_strconv_small_of {tr S0 i} : Lf (internal_strconv_small_b tr (R tr) S0 i) (R tr n_internal_strconv_small [(.int .i64 i)] S0) := lfF (fn := Tryz.f203) (by kernel_rfl) Tryz.func203 (by kernel_rfl) (by kernel_rfl)
end
end Go.Proofs.YtjdknnlhhenpnaaGreatDoor
