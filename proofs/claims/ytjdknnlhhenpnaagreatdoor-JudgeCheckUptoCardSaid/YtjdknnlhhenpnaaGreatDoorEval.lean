/- A part of the proof of one statement: an abstract machine for the model, proved sound; equations of the functions over it; what they reckon. -/
import Derived.Test.YtjdknnlhhenpnaaGreatDoorEqsA
import Derived.Test.YtjdknnlhhenpnaaGreatDoorEqsB
import Derived.Test.YtjdknnlhhenpnaaGreatDoorMachC
import Derived.Lib.Builder
import Derived.Lib.AppendStr
import Derived.Lib.UnsafeStr
import Derived.WalkKit
import Derived.Laws.Externs
import Derived.OwnWalk
set_option linter.unusedVariables false
set_option linter.unusedSimpArgs false
namespace Go.Proofs.YtjdknnlhhenpnaaGreatDoor
open Go Go.Abs
noncomputable section
def vlaw14_alive_e (C : CallF) (u : Nat) (args : List PV) (S0 : St) : Rs := match args with
 | [] => vlaw14_alive_b C  S0
 | _ => none
theorem vlaw14_alive_e_le : LeE n_vlaw14_alive vlaw14_alive_e := by
 intro C hC u args S; unfold vlaw14_alive_e; split
 · refine lt ?_ vlaw14_alive_of; unfold vlaw14_alive_b; with_reducible repeat' first | intro _ | exact Le.refl _ | exact hC .. | exact Le.callV hC | apply Le.bind | apply Le.ite
 · exact Le.none _
def judge_Check_E (C : CallF) : Nat → judge_Check_J1_t × judge_Check_L1_t × judge_Check_J2_t
 | 0 => (fun _ _ _ _ _ _ _ _ => none, fun _ _ _ _ _ _ _ _ _ => none, fun _ _ _ => none)
 | u + 1 => (judge_Check_J1_b false C (judge_Check_E C u).2.1, judge_Check_L1_b false C (judge_Check_E C u).2.1 (judge_Check_E C u).2.2, judge_Check_J2_b false C )
theorem judge_Check_E_le {C : CallF} (hC : LeC C) : ∀ u, (∀ a b c d e f g i, Le ((judge_Check_E C u).1 a b c d e f g i) (judge_Check_J1 false a b c d e f g i)) ∧ (∀ a b c d e f g i j, Le ((judge_Check_E C u).2.1 a b c d e f g i j) (judge_Check_L1 false a b c d e f g i j)) ∧ (∀ a b c, Le ((judge_Check_E C u).2.2 a b c) (judge_Check_J2 false a b c))
 | 0 => ⟨fun _ _ _ _ _ _ _ _ => Le.none _, fun _ _ _ _ _ _ _ _ _ => Le.none _, fun _ _ _ => Le.none _⟩
 | u + 1 => by
  obtain ⟨h1, h2, h3⟩ := judge_Check_E_le hC u
  exact ⟨(by intros; refine lt ?_ judge_Check_J1_of; simp only [judge_Check_E]; unfold judge_Check_J1_b; with_reducible repeat' first | intro _ | exact Le.refl _ | exact hC .. | exact h2 .. | exact Le.callV hC | apply Le.bind | apply Le.ite), (by intros; refine lt ?_ judge_Check_L1_of; simp only [judge_Check_E]; unfold judge_Check_L1_b; with_reducible repeat' first | intro _ | exact Le.refl _ | exact hC .. | exact h2 .. | exact h3 .. | exact Le.callV hC | apply Le.bind | apply Le.ite), (by intros; refine lt ?_ judge_Check_J2_of; simp only [judge_Check_E]; unfold judge_Check_J2_b; with_reducible repeat' first | intro _ | exact Le.refl _ | exact hC .. | exact Le.callV hC | apply Le.bind | apply Le.ite)⟩
def judge_Check_e (C : CallF) (u : Nat) (args : List PV) (S0 : St) : Rs := match args with
 | [(.agg [s_Syms, s_Funs]), (.agg [a_Ranks, (.int .i64 a_Start), a_Moves]), (.agg [k_Params, k_Sets, k_Binds])] => judge_Check_b false C (judge_Check_E C u).1 S0 s_Syms s_Funs a_Ranks a_Start a_Moves k_Params k_Sets k_Binds
 | _ => none
theorem judge_Check_e_le : LeE n_judge_Check judge_Check_e := by
 intro C hC u args S; unfold judge_Check_e; split
 · obtain ⟨h1, h2, h3⟩ := judge_Check_E_le hC u; refine lt ?_ judge_Check_of; unfold judge_Check_b; with_reducible repeat' first | intro _ | exact Le.refl _ | exact hC .. | exact h1 .. | exact Le.callV hC | apply Le.bind | apply Le.ite
 · exact Le.none _
def judge_Has_e (C : CallF) (u : Nat) (args : List PV) (S0 : St) : Rs := match args with
 | [(.agg [s_Syms, s_Funs]), (.agg [a_Ranks, (.int .i64 a_Start), a_Moves]), (.agg [k_Params, k_Sets, k_Binds]), (.agg [(.int .i64 t_Kind), (.int .i64 t_N), t_Args]), (.agg [(.int .i64 ty_State), ty_Args])] => judge_Has_b false C  S0 s_Syms s_Funs a_Ranks a_Start a_Moves k_Params k_Sets k_Binds t_Kind t_N t_Args ty_State ty_Args
 | _ => none
theorem judge_Has_e_le : LeE n_judge_Has judge_Has_e := by
 intro C hC u args S; unfold judge_Has_e; split
 · refine lt ?_ judge_Has_of; unfold judge_Has_b; with_reducible repeat' first | intro _ | exact Le.refl _ | exact hC .. | exact Le.callV hC | apply Le.bind | apply Le.ite
 · exact Le.none _
def judge_States_E (C : CallF) : Nat → judge_States_J1_t × judge_States_L1_t
 | 0 => (fun _ _ _ _ _ _ _ _ _ _ => none, fun _ _ _ _ _ _ _ _ _ => none)
 | u + 1 => (judge_States_J1_b false C (judge_States_E C u).2, judge_States_L1_b false C (judge_States_E C u).1)
theorem judge_States_E_le {C : CallF} (hC : LeC C) : ∀ u, (∀ a b c d e f g i j k, Le ((judge_States_E C u).1 a b c d e f g i j k) (judge_States_J1 false a b c d e f g i j k)) ∧ (∀ a b c d e f g i j, Le ((judge_States_E C u).2 a b c d e f g i j) (judge_States_L1 false a b c d e f g i j))
 | 0 => ⟨fun _ _ _ _ _ _ _ _ _ _ => Le.none _, fun _ _ _ _ _ _ _ _ _ => Le.none _⟩
 | u + 1 => by
  obtain ⟨h1, h2⟩ := judge_States_E_le hC u
  exact ⟨(by intros; refine lt ?_ judge_States_J1_of; simp only [judge_States_E]; unfold judge_States_J1_b; with_reducible repeat' first | intro _ | exact Le.refl _ | exact hC .. | exact h2 .. | exact Le.callV hC | apply Le.bind | apply Le.ite), (by intros; refine lt ?_ judge_States_L1_of; simp only [judge_States_E]; unfold judge_States_L1_b; with_reducible repeat' first | intro _ | exact Le.refl _ | exact hC .. | exact h1 .. | exact Le.callV hC | apply Le.bind | apply Le.ite)⟩
def judge_States_e (C : CallF) (u : Nat) (args : List PV) (S0 : St) : Rs := match args with
 | [(.agg [s_Syms, s_Funs]), (.agg [a_Ranks, (.int .i64 a_Start), a_Moves]), (.agg [k_Params, k_Sets, k_Binds]), (.agg [(.int .i64 t_Kind), (.int .i64 t_N), t_Args])] => judge_States_b false C (judge_States_E C u).2 S0 s_Syms s_Funs a_Ranks a_Start a_Moves k_Params k_Sets k_Binds t_Kind t_N t_Args
 | _ => none
theorem judge_States_e_le : LeE n_judge_States judge_States_e := by
 intro C hC u args S; unfold judge_States_e; split
 · obtain ⟨h1, h2⟩ := judge_States_E_le hC u; refine lt ?_ judge_States_of; unfold judge_States_b; with_reducible repeat' first | intro _ | exact Le.refl _ | exact hC .. | exact h2 .. | exact Le.callV hC | apply Le.bind | apply Le.ite
 · exact Le.none _
def judge_Body_e (C : CallF) (u : Nat) (args : List PV) (S0 : St) : Rs := match args with
 | [(.agg [s_Syms, s_Funs]), (.agg [a_Ranks, (.int .i64 a_Start), a_Moves]), binds, (.agg [(.int .i64 b_Fun), (.int .i64 b_Type_State), b_Type_Args])] => judge_Body_b false C  S0 s_Syms s_Funs a_Ranks a_Start a_Moves binds b_Fun b_Type_State b_Type_Args
 | _ => none
theorem judge_Body_e_le : LeE n_judge_Body judge_Body_e := by
 intro C hC u args S; unfold judge_Body_e; split
 · refine lt ?_ judge_Body_of; unfold judge_Body_b; with_reducible repeat' first | intro _ | exact Le.refl _ | exact hC .. | exact Le.callV hC | apply Le.bind | apply Le.ite
 · exact Le.none _
def vref02_Nodes_E (C : CallF) : Nat → vref02_Nodes_J1_t × vref02_Nodes_L1_t
 | 0 => (fun _ _ _ _ _ _ _ _ _ => none, fun _ _ _ _ _ _ _ _ => none)
 | u + 1 => (vref02_Nodes_J1_b false C (vref02_Nodes_E C u).2, vref02_Nodes_L1_b false C (vref02_Nodes_E C u).1)
theorem vref02_Nodes_E_le {C : CallF} (hC : LeC C) : ∀ u, (∀ a b c d e f g i j, Le ((vref02_Nodes_E C u).1 a b c d e f g i j) (vref02_Nodes_J1 false a b c d e f g i j)) ∧ (∀ a b c d e f g i, Le ((vref02_Nodes_E C u).2 a b c d e f g i) (vref02_Nodes_L1 false a b c d e f g i))
 | 0 => ⟨fun _ _ _ _ _ _ _ _ _ => Le.none _, fun _ _ _ _ _ _ _ _ => Le.none _⟩
 | u + 1 => by
  obtain ⟨h1, h2⟩ := vref02_Nodes_E_le hC u
  exact ⟨(by intros; refine lt ?_ vref02_Nodes_J1_of; simp only [vref02_Nodes_E]; unfold vref02_Nodes_J1_b; with_reducible repeat' first | intro _ | exact Le.refl _ | exact hC .. | exact h2 .. | exact Le.callV hC | apply Le.bind | apply Le.ite), (by intros; refine lt ?_ vref02_Nodes_L1_of; simp only [vref02_Nodes_E]; unfold vref02_Nodes_L1_b; with_reducible repeat' first | intro _ | exact Le.refl _ | exact hC .. | exact h1 .. | exact Le.callV hC | apply Le.bind | apply Le.ite)⟩
def vref02_Nodes_e (C : CallF) (u : Nat) (args : List PV) (S0 : St) : Rs := match args with
 | [(.agg [(.int .i64 t_Kind), (.int .i64 t_N), t_Args]), (.int .i64 most)] => vref02_Nodes_b false C (vref02_Nodes_E C u).2 S0 t_Kind t_N t_Args most
 | _ => none
theorem vref02_Nodes_e_le : LeE n_vref02_Nodes vref02_Nodes_e := by
 intro C hC u args S; unfold vref02_Nodes_e; split
 · obtain ⟨h1, h2⟩ := vref02_Nodes_E_le hC u; refine lt ?_ vref02_Nodes_of; unfold vref02_Nodes_b; with_reducible repeat' first | intro _ | exact Le.refl _ | exact hC .. | exact h2 .. | exact Le.callV hC | apply Le.bind | apply Le.ite
 · exact Le.none _
def vref03_Get_E (C : CallF) : Nat → vref03_Get_J1_t × vref03_Get_L1_t
 | 0 => (fun _ _ _ _ _ _ _ _ _ _ _ _ _ _ _ _ _ _ _ _ _ _ _ _ => none, fun _ _ _ _ _ _ _ _ _ _ _ _ _ _ _ => none)
 | u + 1 => (vref03_Get_J1_b false C (vref03_Get_E C u).2, vref03_Get_L1_b false C (vref03_Get_E C u).1)
theorem vref03_Get_E_le {C : CallF} (hC : LeC C) : ∀ u, (∀ a b c d e f g i j k l m n o p q r s t v w x y z, Le ((vref03_Get_E C u).1 a b c d e f g i j k l m n o p q r s t v w x y z) (vref03_Get_J1 false a b c d e f g i j k l m n o p q r s t v w x y z)) ∧ (∀ a b c d e f g i j k l m n o p, Le ((vref03_Get_E C u).2 a b c d e f g i j k l m n o p) (vref03_Get_L1 false a b c d e f g i j k l m n o p))
 | 0 => ⟨fun _ _ _ _ _ _ _ _ _ _ _ _ _ _ _ _ _ _ _ _ _ _ _ _ => Le.none _, fun _ _ _ _ _ _ _ _ _ _ _ _ _ _ _ => Le.none _⟩
 | u + 1 => by
  obtain ⟨h1, h2⟩ := vref03_Get_E_le hC u
  exact ⟨(by intros; refine lt ?_ vref03_Get_J1_of; simp only [vref03_Get_E]; unfold vref03_Get_J1_b; with_reducible repeat' first | intro _ | exact Le.refl _ | exact hC .. | exact h2 .. | exact Le.callV hC | apply Le.bind | apply Le.ite), (by intros; refine lt ?_ vref03_Get_L1_of; simp only [vref03_Get_E]; unfold vref03_Get_L1_b; with_reducible repeat' first | intro _ | exact Le.refl _ | exact hC .. | exact h1 .. | exact Le.callV hC | apply Le.bind | apply Le.ite)⟩
def vref03_Get_e (C : CallF) (u : Nat) (args : List PV) (S0 : St) : Rs := match args with
 | [(.str text)] => vref03_Get_b false C (vref03_Get_E C u).2 S0 text
 | _ => none
theorem vref03_Get_e_le : LeE n_vref03_Get vref03_Get_e := by
 intro C hC u args S; unfold vref03_Get_e; split
 · obtain ⟨h1, h2⟩ := vref03_Get_E_le hC u; refine lt ?_ vref03_Get_of; unfold vref03_Get_b; with_reducible repeat' first | intro _ | exact Le.refl _ | exact hC .. | exact h2 .. | exact Le.callV hC | apply Le.bind | apply Le.ite
 · exact Le.none _
def vref09_Get_E (C : CallF) : Nat → vref09_Get_J1_t × vref09_Get_L1_t × vref09_Get_L2_t × vref09_Get_J2_t × vref09_Get_J3_t × vref09_Get_J5_t × vref09_Get_L4_t × vref09_Get_J6_t × vref09_Get_J4_t × vref09_Get_L3_t
 | 0 => (fun _ _ _ _ _ _ _ _ _ _ _ => none, fun _ _ _ _ _ _ _ _ _ _ => none, fun _ _ _ _ _ _ _ _ _ _ _ _ _ => none, fun _ _ _ _ _ _ _ _ _ _ _ _ _ _ => none, fun _ _ _ _ _ _ _ _ _ _ _ _ _ _ => none, fun _ _ _ _ _ _ _ _ _ _ _ _ _ _ _ _ => none, fun _ _ _ _ _ _ _ _ _ _ _ _ _ _ _ => none, fun _ _ _ _ _ _ _ _ _ _ _ _ _ _ _ _ => none, fun _ _ _ _ _ _ _ _ _ _ _ _ _ => none, fun _ _ _ _ _ _ _ _ _ _ _ _ _ _ _ => none)
 | u + 1 => (vref09_Get_J1_b false C (vref09_Get_E C u).2.1 (vref09_Get_E C u).2.2.1, vref09_Get_L1_b false C (vref09_Get_E C u).1, vref09_Get_L2_b false C (vref09_Get_E C u).2.2.1 (vref09_Get_E C u).2.2.2.2.2.2.2.2.2, vref09_Get_J2_b false C (vref09_Get_E C u).2.2.2.2.1, vref09_Get_J3_b false C (vref09_Get_E C u).2.2.2.2.2.2.2.2.1, vref09_Get_J5_b false C (vref09_Get_E C u).2.2.2.2.2.2.1 (vref09_Get_E C u).2.2.2.2.2.2.2.1, vref09_Get_L4_b false C (vref09_Get_E C u).2.2.2.2.2.1, vref09_Get_J6_b false C (vref09_Get_E C u).2.2.2.2.2.2.2.2.2, vref09_Get_J4_b false C (vref09_Get_E C u).2.2.2.2.2.2.1, vref09_Get_L3_b false C (vref09_Get_E C u).2.2.2.1)
theorem vref09_Get_E_le {C : CallF} (hC : LeC C) : ∀ u, (∀ a b c d e f g i j k l, Le ((vref09_Get_E C u).1 a b c d e f g i j k l) (vref09_Get_J1 false a b c d e f g i j k l)) ∧ (∀ a b c d e f g i j k, Le ((vref09_Get_E C u).2.1 a b c d e f g i j k) (vref09_Get_L1 false a b c d e f g i j k)) ∧ (∀ a b c d e f g i j k l m n, Le ((vref09_Get_E C u).2.2.1 a b c d e f g i j k l m n) (vref09_Get_L2 false a b c d e f g i j k l m n)) ∧ (∀ a b c d e f g i j k l m n o, Le ((vref09_Get_E C u).2.2.2.1 a b c d e f g i j k l m n o) (vref09_Get_J2 false a b c d e f g i j k l m n o)) ∧ (∀ a b c d e f g i j k l m n o, Le ((vref09_Get_E C u).2.2.2.2.1 a b c d e f g i j k l m n o) (vref09_Get_J3 false a b c d e f g i j k l m n o)) ∧ (∀ a b c d e f g i j k l m n o p q, Le ((vref09_Get_E C u).2.2.2.2.2.1 a b c d e f g i j k l m n o p q) (vref09_Get_J5 false a b c d e f g i j k l m n o p q)) ∧ (∀ a b c d e f g i j k l m n o p, Le ((vref09_Get_E C u).2.2.2.2.2.2.1 a b c d e f g i j k l m n o p) (vref09_Get_L4 false a b c d e f g i j k l m n o p)) ∧ (∀ a b c d e f g i j k l m n o p q, Le ((vref09_Get_E C u).2.2.2.2.2.2.2.1 a b c d e f g i j k l m n o p q) (vref09_Get_J6 false a b c d e f g i j k l m n o p q)) ∧ (∀ a b c d e f g i j k l m n, Le ((vref09_Get_E C u).2.2.2.2.2.2.2.2.1 a b c d e f g i j k l m n) (vref09_Get_J4 false a b c d e f g i j k l m n)) ∧ (∀ a b c d e f g i j k l m n o p, Le ((vref09_Get_E C u).2.2.2.2.2.2.2.2.2 a b c d e f g i j k l m n o p) (vref09_Get_L3 false a b c d e f g i j k l m n o p))
 | 0 => ⟨fun _ _ _ _ _ _ _ _ _ _ _ => Le.none _, fun _ _ _ _ _ _ _ _ _ _ => Le.none _, fun _ _ _ _ _ _ _ _ _ _ _ _ _ => Le.none _, fun _ _ _ _ _ _ _ _ _ _ _ _ _ _ => Le.none _, fun _ _ _ _ _ _ _ _ _ _ _ _ _ _ => Le.none _, fun _ _ _ _ _ _ _ _ _ _ _ _ _ _ _ _ => Le.none _, fun _ _ _ _ _ _ _ _ _ _ _ _ _ _ _ => Le.none _, fun _ _ _ _ _ _ _ _ _ _ _ _ _ _ _ _ => Le.none _, fun _ _ _ _ _ _ _ _ _ _ _ _ _ => Le.none _, fun _ _ _ _ _ _ _ _ _ _ _ _ _ _ _ => Le.none _⟩
 | u + 1 => by
  obtain ⟨h1, h2, h3, h4, h5, h6, h7, h8, h9, h10⟩ := vref09_Get_E_le hC u
  exact ⟨(by intros; refine lt ?_ vref09_Get_J1_of; simp only [vref09_Get_E]; unfold vref09_Get_J1_b; with_reducible repeat' first | intro _ | exact Le.refl _ | exact hC .. | exact h2 .. | exact h3 .. | exact Le.callV hC | apply Le.bind | apply Le.ite), (by intros; refine lt ?_ vref09_Get_L1_of; simp only [vref09_Get_E]; unfold vref09_Get_L1_b; with_reducible repeat' first | intro _ | exact Le.refl _ | exact hC .. | exact h1 .. | exact Le.callV hC | apply Le.bind | apply Le.ite), (by intros; refine lt ?_ vref09_Get_L2_of; simp only [vref09_Get_E]; unfold vref09_Get_L2_b; with_reducible repeat' first | intro _ | exact Le.refl _ | exact hC .. | exact h3 .. | exact h10 .. | exact Le.callV hC | apply Le.bind | apply Le.ite), (by intros; refine lt ?_ vref09_Get_J2_of; simp only [vref09_Get_E]; unfold vref09_Get_J2_b; with_reducible repeat' first | intro _ | exact Le.refl _ | exact hC .. | exact h5 .. | exact Le.callV hC | apply Le.bind | apply Le.ite), (by intros; refine lt ?_ vref09_Get_J3_of; simp only [vref09_Get_E]; unfold vref09_Get_J3_b; with_reducible repeat' first | intro _ | exact Le.refl _ | exact hC .. | exact h9 .. | exact Le.callV hC | apply Le.bind | apply Le.ite), (by intros; refine lt ?_ vref09_Get_J5_of; simp only [vref09_Get_E]; unfold vref09_Get_J5_b; with_reducible repeat' first | intro _ | exact Le.refl _ | exact hC .. | exact h7 .. | exact h8 .. | exact Le.callV hC | apply Le.bind | apply Le.ite), (by intros; refine lt ?_ vref09_Get_L4_of; simp only [vref09_Get_E]; unfold vref09_Get_L4_b; with_reducible repeat' first | intro _ | exact Le.refl _ | exact hC .. | exact h6 .. | exact Le.callV hC | apply Le.bind | apply Le.ite), (by intros; refine lt ?_ vref09_Get_J6_of; simp only [vref09_Get_E]; unfold vref09_Get_J6_b; with_reducible repeat' first | intro _ | exact Le.refl _ | exact hC .. | exact h10 .. | exact Le.callV hC | apply Le.bind | apply Le.ite), (by intros; refine lt ?_ vref09_Get_J4_of; simp only [vref09_Get_E]; unfold vref09_Get_J4_b; with_reducible repeat' first | intro _ | exact Le.refl _ | exact hC .. | exact h7 .. | exact Le.callV hC | apply Le.bind | apply Le.ite), (by intros; refine lt ?_ vref09_Get_L3_of; simp only [vref09_Get_E]; unfold vref09_Get_L3_b; with_reducible repeat' first | intro _ | exact Le.refl _ | exact hC .. | exact h4 .. | exact Le.callV hC | apply Le.bind | apply Le.ite)⟩
def vref09_Get_e (C : CallF) (u : Nat) (args : List PV) (S0 : St) : Rs := match args with
 | [(.str text)] => vref09_Get_b false C (vref09_Get_E C u).2.1 S0 text
 | _ => none
theorem vref09_Get_e_le : LeE n_vref09_Get vref09_Get_e := by
 intro C hC u args S; unfold vref09_Get_e; split
 · obtain ⟨h1, h2, h3, h4, h5, h6, h7, h8, h9, h10⟩ := vref09_Get_E_le hC u; refine lt ?_ vref09_Get_of; unfold vref09_Get_b; with_reducible repeat' first | intro _ | exact Le.refl _ | exact hC .. | exact h2 .. | exact Le.callV hC | apply Le.bind | apply Le.ite
 · exact Le.none _
def judge_Pair_e (C : CallF) (u : Nat) (args : List PV) (S0 : St) : Rs := match args with
 | [(.agg [s_Syms, s_Funs]), (.agg [a_Ranks, (.int .i64 a_Start), a_Moves])] => judge_Pair_b false C  S0 s_Syms s_Funs a_Ranks a_Start a_Moves
 | _ => none
theorem judge_Pair_e_le : LeE n_judge_Pair judge_Pair_e := by
 intro C hC u args S; unfold judge_Pair_e; split
 · refine lt ?_ judge_Pair_of; unfold judge_Pair_b; with_reducible repeat' first | intro _ | exact Le.refl _ | exact hC .. | exact Le.callV hC | apply Le.bind | apply Le.ite
 · exact Le.none _
def slices_ContainsFunc_of_api_Sort_e (C : CallF) (u : Nat) (args : List PV) (S0 : St) : Rs := match args with
 | [s, f] => slices_ContainsFunc_of_api_Sort_b false C  S0 s f
 | _ => none
theorem slices_ContainsFunc_of_api_Sort_e_le : LeE n_slices_ContainsFunc_of_api_Sort slices_ContainsFunc_of_api_Sort_e := by
 intro C hC u args S; unfold slices_ContainsFunc_of_api_Sort_e; split
 · refine lt ?_ slices_ContainsFunc_of_api_Sort_of; unfold slices_ContainsFunc_of_api_Sort_b; with_reducible repeat' first | intro _ | exact Le.refl _ | exact hC .. | exact Le.callV hC | apply Le.bind | apply Le.ite
 · exact Le.none _
def judge_Check_1_e (C : CallF) (u : Nat) (args : List PV) (S0 : St) : Rs := match args with
 | [(.agg [p_Args])] => judge_Check_1_b false C  S0 p_Args
 | _ => none
theorem judge_Check_1_e_le : LeE n_judge_Check_1 judge_Check_1_e := by
 intro C hC u args S; unfold judge_Check_1_e; split
 · refine lt ?_ judge_Check_1_of; unfold judge_Check_1_b; with_reducible repeat' first | intro _ | exact Le.refl _ | exact hC .. | exact Le.callV hC | apply Le.bind | apply Le.ite
 · exact Le.none _
def sorts_Check_E (C : CallF) : Nat → sorts_Check_J1_t
 | 0 => fun _ _ _ => none
 | u + 1 => sorts_Check_J1_b false C
theorem sorts_Check_E_le {C : CallF} (hC : LeC C) : ∀ u, (∀ a b c, Le ((sorts_Check_E C u) a b c) (sorts_Check_J1 false a b c))
 | 0 => fun _ _ _ => Le.none _
 | u + 1 => by
  have h1 := sorts_Check_E_le hC u
  exact by intros; refine lt ?_ sorts_Check_J1_of; simp only [sorts_Check_E]; unfold sorts_Check_J1_b; with_reducible repeat' first | intro _ | exact Le.refl _ | exact hC .. | exact Le.callV hC | apply Le.bind | apply Le.ite
def sorts_Check_e (C : CallF) (u : Nat) (args : List PV) (S0 : St) : Rs := match args with
 | [(.agg [s_Args])] => sorts_Check_b false C (sorts_Check_E C u) S0 s_Args
 | _ => none
theorem sorts_Check_e_le : LeE n_sorts_Check sorts_Check_e := by
 intro C hC u args S; unfold sorts_Check_e; split
 · have h1 := sorts_Check_E_le hC u; refine lt ?_ sorts_Check_of; unfold sorts_Check_b; with_reducible repeat' first | intro _ | exact Le.refl _ | exact hC .. | exact h1 .. | exact Le.callV hC | apply Le.bind | apply Le.ite
 · exact Le.none _
def inter_CheckSet_E (C : CallF) : Nat → inter_CheckSet_J1_t
 | 0 => fun _ _ _ => none
 | u + 1 => inter_CheckSet_J1_b false C
theorem inter_CheckSet_E_le {C : CallF} (hC : LeC C) : ∀ u, (∀ a b c, Le ((inter_CheckSet_E C u) a b c) (inter_CheckSet_J1 false a b c))
 | 0 => fun _ _ _ => Le.none _
 | u + 1 => by
  have h1 := inter_CheckSet_E_le hC u
  exact by intros; refine lt ?_ inter_CheckSet_J1_of; simp only [inter_CheckSet_E]; unfold inter_CheckSet_J1_b; with_reducible repeat' first | intro _ | exact Le.refl _ | exact hC .. | exact Le.callV hC | apply Le.bind | apply Le.ite
def inter_CheckSet_e (C : CallF) (u : Nat) (args : List PV) (S0 : St) : Rs := match args with
 | [(.agg [s_Args]), (.int .i64 states), l] => inter_CheckSet_b false C (inter_CheckSet_E C u) S0 s_Args states l
 | _ => none
theorem inter_CheckSet_e_le : LeE n_inter_CheckSet inter_CheckSet_e := by
 intro C hC u args S; unfold inter_CheckSet_e; split
 · have h1 := inter_CheckSet_E_le hC u; refine lt ?_ inter_CheckSet_of; unfold inter_CheckSet_b; with_reducible repeat' first | intro _ | exact Le.refl _ | exact hC .. | exact h1 .. | exact Le.callV hC | apply Le.bind | apply Le.ite
 · exact Le.none _
def slices_ContainsFunc_of_api_Bind_e (C : CallF) (u : Nat) (args : List PV) (S0 : St) : Rs := match args with
 | [s, f] => slices_ContainsFunc_of_api_Bind_b false C  S0 s f
 | _ => none
theorem slices_ContainsFunc_of_api_Bind_e_le : LeE n_slices_ContainsFunc_of_api_Bind slices_ContainsFunc_of_api_Bind_e := by
 intro C hC u args S; unfold slices_ContainsFunc_of_api_Bind_e; split
 · refine lt ?_ slices_ContainsFunc_of_api_Bind_of; unfold slices_ContainsFunc_of_api_Bind_b; with_reducible repeat' first | intro _ | exact Le.refl _ | exact hC .. | exact Le.callV hC | apply Le.bind | apply Le.ite
 · exact Le.none _
def judge_Check_2_e (C : CallF) (u : Nat) (args : List PV) (S0 : St) : Rs := match args with
 | [(.agg [(.int .i64 b_Fun), (.int .i64 b_Type_State), b_Type_Args]), y, y2] => judge_Check_2_b false C  S0 b_Fun b_Type_State b_Type_Args y y2
 | _ => none
theorem judge_Check_2_e_le : LeE n_judge_Check_2 judge_Check_2_e := by
 intro C hC u args S; unfold judge_Check_2_e; split
 · refine lt ?_ judge_Check_2_of; unfold judge_Check_2_b; with_reducible repeat' first | intro _ | exact Le.refl _ | exact hC .. | exact Le.callV hC | apply Le.bind | apply Le.ite
 · exact Le.none _
def judge_Bound_e (C : CallF) (u : Nat) (args : List PV) (S0 : St) : Rs := match args with
 | [(.agg [s_Syms, s_Funs]), (.agg [a_Ranks, (.int .i64 a_Start), a_Moves]), (.agg [(.int .i64 b_Fun), (.int .i64 b_Type_State), b_Type_Args])] => judge_Bound_b false C  S0 s_Syms s_Funs a_Ranks a_Start a_Moves b_Fun b_Type_State b_Type_Args
 | _ => none
theorem judge_Bound_e_le : LeE n_judge_Bound judge_Bound_e := by
 intro C hC u args S; unfold judge_Bound_e; split
 · refine lt ?_ judge_Bound_of; unfold judge_Bound_b; with_reducible repeat' first | intro _ | exact Le.refl _ | exact hC .. | exact Le.callV hC | apply Le.bind | apply Le.ite
 · exact Le.none _
end
end Go.Proofs.YtjdknnlhhenpnaaGreatDoor
namespace Go.Proofs.YtjdknnlhhenpnaaGreatDoor
open Go Go.Abs
noncomputable section
def vref01_Is_e (C : CallF) (u : Nat) (args : List PV) (S0 : St) : Rs := match args with
 | [(.agg [s_Args])] => vref01_Is_b false C  S0 s_Args
 | _ => none
theorem vref01_Is_e_le : LeE n_vref01_Is vref01_Is_e := by
 intro C hC u args S; unfold vref01_Is_e; split
 · refine lt ?_ vref01_Is_of; unfold vref01_Is_b; with_reducible repeat' first | intro _ | exact Le.refl _ | exact hC .. | exact Le.callV hC | apply Le.bind | apply Le.ite
 · exact Le.none _
def judge_sorted_E (C : CallF) : Nat → judge_sorted_J1_t
 | 0 => fun _ _ _ _ _ _ _ _ _ _ _ => none
 | u + 1 => judge_sorted_J1_b false C
theorem judge_sorted_E_le {C : CallF} (hC : LeC C) : ∀ u, (∀ a b c d e f g i j k l, Le ((judge_sorted_E C u) a b c d e f g i j k l) (judge_sorted_J1 false a b c d e f g i j k l))
 | 0 => fun _ _ _ _ _ _ _ _ _ _ _ => Le.none _
 | u + 1 => by
  have h1 := judge_sorted_E_le hC u
  exact by intros; refine lt ?_ judge_sorted_J1_of; simp only [judge_sorted_E]; unfold judge_sorted_J1_b; with_reducible repeat' first | intro _ | exact Le.refl _ | exact hC .. | exact Le.callV hC | apply Le.bind | apply Le.ite
def judge_sorted_e (C : CallF) (u : Nat) (args : List PV) (S0 : St) : Rs := match args with
 | [(.agg [s_Syms, s_Funs]), (.agg [k_Params, k_Sets, k_Binds]), (.agg [(.int .i64 t_Kind), (.int .i64 t_N), t_Args])] => judge_sorted_b false C (judge_sorted_E C u) S0 s_Syms s_Funs k_Params k_Sets k_Binds t_Kind t_N t_Args
 | _ => none
theorem judge_sorted_e_le : LeE n_judge_sorted judge_sorted_e := by
 intro C hC u args S; unfold judge_sorted_e; split
 · have h1 := judge_sorted_E_le hC u; refine lt ?_ judge_sorted_of; unfold judge_sorted_b; with_reducible repeat' first | intro _ | exact Le.refl _ | exact hC .. | exact h1 .. | exact Le.callV hC | apply Le.bind | apply Le.ite
 · exact Le.none _
def inter_Check_E (C : CallF) : Nat → inter_Check_J1_t
 | 0 => fun _ _ _ => none
 | u + 1 => inter_Check_J1_b false C
theorem inter_Check_E_le {C : CallF} (hC : LeC C) : ∀ u, (∀ a b c, Le ((inter_Check_E C u) a b c) (inter_Check_J1 false a b c))
 | 0 => fun _ _ _ => Le.none _
 | u + 1 => by
  have h1 := inter_Check_E_le hC u
  exact by intros; refine lt ?_ inter_Check_J1_of; simp only [inter_Check_E]; unfold inter_Check_J1_b; with_reducible repeat' first | intro _ | exact Le.refl _ | exact hC .. | exact Le.callV hC | apply Le.bind | apply Le.ite
def inter_Check_e (C : CallF) (u : Nat) (args : List PV) (S0 : St) : Rs := match args with
 | [(.agg [s_Args]), (.int .i64 states), (.agg [(.int .i64 t_State), t_Args])] => inter_Check_b false C (inter_Check_E C u) S0 s_Args states t_State t_Args
 | _ => none
theorem inter_Check_e_le : LeE n_inter_Check inter_Check_e := by
 intro C hC u args S; unfold inter_Check_e; split
 · have h1 := inter_Check_E_le hC u; refine lt ?_ inter_Check_of; unfold inter_Check_b; with_reducible repeat' first | intro _ | exact Le.refl _ | exact hC .. | exact h1 .. | exact Le.callV hC | apply Le.bind | apply Le.ite
 · exact Le.none _
def judge_New_E (C : CallF) : Nat → judge_New_L1_t
 | 0 => fun _ _ _ _ _ _ => none
 | u + 1 => judge_New_L1_b false C (judge_New_E C u)
theorem judge_New_E_le {C : CallF} (hC : LeC C) : ∀ u, (∀ a b c d e f, Le ((judge_New_E C u) a b c d e f) (judge_New_L1 false a b c d e f))
 | 0 => fun _ _ _ _ _ _ => Le.none _
 | u + 1 => by
  have h1 := judge_New_E_le hC u
  exact by intros; refine lt ?_ judge_New_L1_of; simp only [judge_New_E]; unfold judge_New_L1_b; with_reducible repeat' first | intro _ | exact Le.refl _ | exact hC .. | exact h1 .. | exact Le.callV hC | apply Le.bind | apply Le.ite
def judge_New_e (C : CallF) (u : Nat) (args : List PV) (S0 : St) : Rs := match args with
 | [(.agg [s_Syms, s_Funs]), (.agg [a_Ranks, (.int .i64 a_Start), a_Moves]), binds] => judge_New_b false C (judge_New_E C u) S0 s_Syms s_Funs a_Ranks a_Start a_Moves binds
 | _ => none
theorem judge_New_e_le : LeE n_judge_New judge_New_e := by
 intro C hC u args S; unfold judge_New_e; split
 · have h1 := judge_New_E_le hC u; refine lt ?_ judge_New_of; unfold judge_New_b; with_reducible repeat' first | intro _ | exact Le.refl _ | exact hC .. | exact h1 .. | exact Le.callV hC | apply Le.bind | apply Le.ite
 · exact Le.none _
def judge_Judge_With_e (C : CallF) (u : Nat) (args : List PV) (S0 : St) : Rs := match args with
 | [(.ref ji 0), sets] => judge_Judge_With_b false C  S0 ji sets
 | _ => none
theorem judge_Judge_With_e_le : LeE n_judge_Judge_With judge_Judge_With_e := by
 intro C hC u args S; unfold judge_Judge_With_e; split
 · refine lt ?_ judge_Judge_With_of; unfold judge_Judge_With_b; with_reducible repeat' first | intro _ | exact Le.refl _ | exact hC .. | exact Le.callV hC | apply Le.bind | apply Le.ite
 · exact Le.none _
def judge_Judge_Has_E (C : CallF) : Nat → judge_Judge_Has_J1_t
 | 0 => fun _ _ _ _ _ _ _ => none
 | u + 1 => judge_Judge_Has_J1_b false C
theorem judge_Judge_Has_E_le {C : CallF} (hC : LeC C) : ∀ u, (∀ a b c d e f g, Le ((judge_Judge_Has_E C u) a b c d e f g) (judge_Judge_Has_J1 false a b c d e f g))
 | 0 => fun _ _ _ _ _ _ _ => Le.none _
 | u + 1 => by
  have h1 := judge_Judge_Has_E_le hC u
  exact by intros; refine lt ?_ judge_Judge_Has_J1_of; simp only [judge_Judge_Has_E]; unfold judge_Judge_Has_J1_b; with_reducible repeat' first | intro _ | exact Le.refl _ | exact hC .. | exact Le.callV hC | apply Le.bind | apply Le.ite
def judge_Judge_Has_e (C : CallF) (u : Nat) (args : List PV) (S0 : St) : Rs := match args with
 | [(.ref ji 0), t, (.agg [(.int .i64 ty_State), ty_Args])] => judge_Judge_Has_b false C (judge_Judge_Has_E C u) S0 ji t ty_State ty_Args
 | _ => none
theorem judge_Judge_Has_e_le : LeE n_judge_Judge_Has judge_Judge_Has_e := by
 intro C hC u args S; unfold judge_Judge_Has_e; split
 · have h1 := judge_Judge_Has_E_le hC u; refine lt ?_ judge_Judge_Has_of; unfold judge_Judge_Has_b; with_reducible repeat' first | intro _ | exact Le.refl _ | exact hC .. | exact h1 .. | exact Le.callV hC | apply Le.bind | apply Le.ite
 · exact Le.none _
def judge_Judge_Follows_e (C : CallF) (u : Nat) (args : List PV) (S0 : St) : Rs := match args with
 | [(.ref ji 0), (.agg [s_Syms, s_Funs]), (.agg [(.int .i64 b_Fun), (.int .i64 b_Type_State), b_Type_Args])] => judge_Judge_Follows_b false C  S0 ji s_Syms s_Funs b_Fun b_Type_State b_Type_Args
 | _ => none
theorem judge_Judge_Follows_e_le : LeE n_judge_Judge_Follows judge_Judge_Follows_e := by
 intro C hC u args S; unfold judge_Judge_Follows_e; split
 · refine lt ?_ judge_Judge_Follows_of; unfold judge_Judge_Follows_b; with_reducible repeat' first | intro _ | exact Le.refl _ | exact hC .. | exact Le.callV hC | apply Le.bind | apply Le.ite
 · exact Le.none _
def vref01_Equal_E (C : CallF) : Nat → vref01_Equal_L1_t
 | 0 => fun _ _ _ _ _ _ => none
 | u + 1 => vref01_Equal_L1_b false C (vref01_Equal_E C u)
theorem vref01_Equal_E_le {C : CallF} (hC : LeC C) : ∀ u, (∀ a b c d e f, Le ((vref01_Equal_E C u) a b c d e f) (vref01_Equal_L1 false a b c d e f))
 | 0 => fun _ _ _ _ _ _ => Le.none _
 | u + 1 => by
  have h1 := vref01_Equal_E_le hC u
  exact by intros; refine lt ?_ vref01_Equal_L1_of; simp only [vref01_Equal_E]; unfold vref01_Equal_L1_b; with_reducible repeat' first | intro _ | exact Le.refl _ | exact hC .. | exact h1 .. | exact Le.callV hC | apply Le.bind | apply Le.ite
def vref01_Equal_e (C : CallF) (u : Nat) (args : List PV) (S0 : St) : Rs := match args with
 | [(.agg [a_Args]), (.agg [b_Args])] => vref01_Equal_b false C (vref01_Equal_E C u) S0 a_Args b_Args
 | _ => none
theorem vref01_Equal_e_le : LeE n_vref01_Equal vref01_Equal_e := by
 intro C hC u args S; unfold vref01_Equal_e; split
 · have h1 := vref01_Equal_E_le hC u; refine lt ?_ vref01_Equal_of; unfold vref01_Equal_b; with_reducible repeat' first | intro _ | exact Le.refl _ | exact hC .. | exact h1 .. | exact Le.callV hC | apply Le.bind | apply Le.ite
 · exact Le.none _
def vref09_Is_E (C : CallF) : Nat → vref09_Is_J1_t × vref09_Is_L2_t × vref09_Is_L1_t
 | 0 => (fun _ _ _ _ _ _ _ => none, fun _ _ _ _ _ _ _ _ _ _ _ _ => none, fun _ _ _ _ _ _ _ _ => none)
 | u + 1 => (vref09_Is_J1_b false C (vref09_Is_E C u).2.2, vref09_Is_L2_b false C (vref09_Is_E C u).2.1 (vref09_Is_E C u).2.2, vref09_Is_L1_b false C (vref09_Is_E C u).2.1)
theorem vref09_Is_E_le {C : CallF} (hC : LeC C) : ∀ u, (∀ a b c d e f g, Le ((vref09_Is_E C u).1 a b c d e f g) (vref09_Is_J1 false a b c d e f g)) ∧ (∀ a b c d e f g i j k l m, Le ((vref09_Is_E C u).2.1 a b c d e f g i j k l m) (vref09_Is_L2 false a b c d e f g i j k l m)) ∧ (∀ a b c d e f g i, Le ((vref09_Is_E C u).2.2 a b c d e f g i) (vref09_Is_L1 false a b c d e f g i))
 | 0 => ⟨fun _ _ _ _ _ _ _ => Le.none _, fun _ _ _ _ _ _ _ _ _ _ _ _ => Le.none _, fun _ _ _ _ _ _ _ _ => Le.none _⟩
 | u + 1 => by
  obtain ⟨h1, h2, h3⟩ := vref09_Is_E_le hC u
  exact ⟨(by intros; refine lt ?_ vref09_Is_J1_of; simp only [vref09_Is_E]; unfold vref09_Is_J1_b; with_reducible repeat' first | intro _ | exact Le.refl _ | exact hC .. | exact h3 .. | exact Le.callV hC | apply Le.bind | apply Le.ite), (by intros; refine lt ?_ vref09_Is_L2_of; simp only [vref09_Is_E]; unfold vref09_Is_L2_b; with_reducible repeat' first | intro _ | exact Le.refl _ | exact hC .. | exact h2 .. | exact h3 .. | exact Le.callV hC | apply Le.bind | apply Le.ite), (by intros; refine lt ?_ vref09_Is_L1_of; simp only [vref09_Is_E]; unfold vref09_Is_L1_b; with_reducible repeat' first | intro _ | exact Le.refl _ | exact hC .. | exact h2 .. | exact Le.callV hC | apply Le.bind | apply Le.ite)⟩
def vref09_Is_e (C : CallF) (u : Nat) (args : List PV) (S0 : St) : Rs := match args with
 | [(.agg [a_Ranks, (.int .i64 a_Start), a_Moves])] => vref09_Is_b false C (vref09_Is_E C u).1 S0 a_Ranks a_Start a_Moves
 | _ => none
theorem vref09_Is_e_le : LeE n_vref09_Is vref09_Is_e := by
 intro C hC u args S; unfold vref09_Is_e; split
 · obtain ⟨h1, h2, h3⟩ := vref09_Is_E_le hC u; refine lt ?_ vref09_Is_of; unfold vref09_Is_b; with_reducible repeat' first | intro _ | exact Le.refl _ | exact hC .. | exact h1 .. | exact Le.callV hC | apply Le.bind | apply Le.ite
 · exact Le.none _
def inter_large_e (C : CallF) (u : Nat) (args : List PV) (S0 : St) : Rs := match args with
 | [(.agg [(.int .i64 t_State), t_Args])] => inter_large_b false C  S0 t_State t_Args
 | _ => none
theorem inter_large_e_le : LeE n_inter_large inter_large_e := by
 intro C hC u args S; unfold inter_large_e; split
 · refine lt ?_ inter_large_of; unfold inter_large_b; with_reducible repeat' first | intro _ | exact Le.refl _ | exact hC .. | exact Le.callV hC | apply Le.bind | apply Le.ite
 · exact Le.none _
def inter_Strong_E (C : CallF) : Nat → inter_Strong_J1_t × inter_Strong_L2_t × inter_Strong_L1_t
 | 0 => (fun _ _ _ _ _ _ _ _ => none, fun _ _ _ _ _ _ _ _ _ _ _ _ => none, fun _ _ _ _ _ _ _ _ => none)
 | u + 1 => (inter_Strong_J1_b false C (inter_Strong_E C u).2.2, inter_Strong_L2_b false C (inter_Strong_E C u).2.1 (inter_Strong_E C u).2.2, inter_Strong_L1_b false C (inter_Strong_E C u).2.1)
theorem inter_Strong_E_le {C : CallF} (hC : LeC C) : ∀ u, (∀ a b c d e f g i, Le ((inter_Strong_E C u).1 a b c d e f g i) (inter_Strong_J1 false a b c d e f g i)) ∧ (∀ a b c d e f g i j k l m, Le ((inter_Strong_E C u).2.1 a b c d e f g i j k l m) (inter_Strong_L2 false a b c d e f g i j k l m)) ∧ (∀ a b c d e f g i, Le ((inter_Strong_E C u).2.2 a b c d e f g i) (inter_Strong_L1 false a b c d e f g i))
 | 0 => ⟨fun _ _ _ _ _ _ _ _ => Le.none _, fun _ _ _ _ _ _ _ _ _ _ _ _ => Le.none _, fun _ _ _ _ _ _ _ _ => Le.none _⟩
 | u + 1 => by
  obtain ⟨h1, h2, h3⟩ := inter_Strong_E_le hC u
  exact ⟨(by intros; refine lt ?_ inter_Strong_J1_of; simp only [inter_Strong_E]; unfold inter_Strong_J1_b; with_reducible repeat' first | intro _ | exact Le.refl _ | exact hC .. | exact h3 .. | exact Le.callV hC | apply Le.bind | apply Le.ite), (by intros; refine lt ?_ inter_Strong_L2_of; simp only [inter_Strong_E]; unfold inter_Strong_L2_b; with_reducible repeat' first | intro _ | exact Le.refl _ | exact hC .. | exact h2 .. | exact h3 .. | exact Le.callV hC | apply Le.bind | apply Le.ite), (by intros; refine lt ?_ inter_Strong_L1_of; simp only [inter_Strong_E]; unfold inter_Strong_L1_b; with_reducible repeat' first | intro _ | exact Le.refl _ | exact hC .. | exact h2 .. | exact Le.callV hC | apply Le.bind | apply Le.ite)⟩
def inter_Strong_e (C : CallF) (u : Nat) (args : List PV) (S0 : St) : Rs := match args with
 | [(.agg [(.int .i64 a_State), a_Args]), (.agg [(.int .i64 b_State), b_Args])] => inter_Strong_b false C (inter_Strong_E C u).1 S0 a_State a_Args b_State b_Args
 | _ => none
theorem inter_Strong_e_le : LeE n_inter_Strong inter_Strong_e := by
 intro C hC u args S; unfold inter_Strong_e; split
 · obtain ⟨h1, h2, h3⟩ := inter_Strong_E_le hC u; refine lt ?_ inter_Strong_of; unfold inter_Strong_b; with_reducible repeat' first | intro _ | exact Le.refl _ | exact hC .. | exact h1 .. | exact Le.callV hC | apply Le.bind | apply Le.ite
 · exact Le.none _
def term_Size_e (C : CallF) (u : Nat) (args : List PV) (S0 : St) : Rs := match args with
 | [(.agg [(.int .i64 t_Kind), (.int .i64 t_N), t_Args])] => term_Size_b false C  S0 t_Kind t_N t_Args
 | _ => none
theorem term_Size_e_le : LeE n_term_Size term_Size_e := by
 intro C hC u args S; unfold term_Size_e; split
 · refine lt ?_ term_Size_of; unfold term_Size_b; with_reducible repeat' first | intro _ | exact Le.refl _ | exact hC .. | exact Le.callV hC | apply Le.bind | apply Le.ite
 · exact Le.none _
def slices_ContainsFunc_of_api_Type_e (C : CallF) (u : Nat) (args : List PV) (S0 : St) : Rs := match args with
 | [s, f] => slices_ContainsFunc_of_api_Type_b false C  S0 s f
 | _ => none
theorem slices_ContainsFunc_of_api_Type_e_le : LeE n_slices_ContainsFunc_of_api_Type slices_ContainsFunc_of_api_Type_e := by
 intro C hC u args S; unfold slices_ContainsFunc_of_api_Type_e; split
 · refine lt ?_ slices_ContainsFunc_of_api_Type_of; unfold slices_ContainsFunc_of_api_Type_b; with_reducible repeat' first | intro _ | exact Le.refl _ | exact hC .. | exact Le.callV hC | apply Le.bind | apply Le.ite
 · exact Le.none _
def inter_Order_e (C : CallF) (u : Nat) (args : List PV) (S0 : St) : Rs := match args with
 | [(.agg [(.int .i64 a_State), a_Args]), (.agg [(.int .i64 b_State), b_Args])] => inter_Order_b false C  S0 a_State a_Args b_State b_Args
 | _ => none
theorem inter_Order_e_le : LeE n_inter_Order inter_Order_e := by
 intro C hC u args S; unfold inter_Order_e; split
 · refine lt ?_ inter_Order_of; unfold inter_Order_b; with_reducible repeat' first | intro _ | exact Le.refl _ | exact hC .. | exact Le.callV hC | apply Le.bind | apply Le.ite
 · exact Le.none _
def vref03_names_E (C : CallF) : Nat → vref03_names_J1_t × vref03_names_J2_t × vref03_names_L1_t × vref03_names_J3_t × vref03_names_J4_t × vref03_names_J5_t × vref03_names_L3_t × vref03_names_L2_t
 | 0 => (fun _ _ _ _ _ _ _ _ _ _ _ _ _ _ _ => none, fun _ _ _ _ _ _ _ _ _ _ _ _ _ _ _ _ => none, fun _ _ _ _ _ _ _ _ _ _ _ _ _ => none, fun _ _ _ _ _ _ _ _ _ _ _ _ _ _ _ _ _ => none, fun _ _ _ _ _ _ _ _ _ _ _ _ _ _ _ _ _ _ => none, fun _ _ _ _ _ _ _ _ _ _ _ _ _ _ _ _ => none, fun _ _ _ _ _ _ _ _ _ _ _ _ _ _ _ => none, fun _ _ _ _ _ _ _ _ _ _ _ _ _ _ _ => none)
 | u + 1 => (vref03_names_J1_b false C (vref03_names_E C u).2.1, vref03_names_J2_b false C (vref03_names_E C u).2.2.1, vref03_names_L1_b false C (vref03_names_E C u).1 (vref03_names_E C u).2.2.2.2.2.2.2, vref03_names_J3_b false C (vref03_names_E C u).2.2.2.2.1, vref03_names_J4_b false C (vref03_names_E C u).2.2.2.2.2.2.1, vref03_names_J5_b false C (vref03_names_E C u).2.2.2.2.2.2.1 (vref03_names_E C u).2.2.2.2.2.2.2, vref03_names_L3_b false C (vref03_names_E C u).2.2.2.2.2.1, vref03_names_L2_b false C (vref03_names_E C u).2.2.2.1)
theorem vref03_names_E_le {C : CallF} (hC : LeC C) : ∀ u, (∀ a b c d e f g i j k l m n o p, Le ((vref03_names_E C u).1 a b c d e f g i j k l m n o p) (vref03_names_J1 false a b c d e f g i j k l m n o p)) ∧ (∀ a b c d e f g i j k l m n o p q, Le ((vref03_names_E C u).2.1 a b c d e f g i j k l m n o p q) (vref03_names_J2 false a b c d e f g i j k l m n o p q)) ∧ (∀ a b c d e f g i j k l m n, Le ((vref03_names_E C u).2.2.1 a b c d e f g i j k l m n) (vref03_names_L1 false a b c d e f g i j k l m n)) ∧ (∀ a b c d e f g i j k l m n o p q r, Le ((vref03_names_E C u).2.2.2.1 a b c d e f g i j k l m n o p q r) (vref03_names_J3 false a b c d e f g i j k l m n o p q r)) ∧ (∀ a b c d e f g i j k l m n o p q r s, Le ((vref03_names_E C u).2.2.2.2.1 a b c d e f g i j k l m n o p q r s) (vref03_names_J4 false a b c d e f g i j k l m n o p q r s)) ∧ (∀ a b c d e f g i j k l m n o p q, Le ((vref03_names_E C u).2.2.2.2.2.1 a b c d e f g i j k l m n o p q) (vref03_names_J5 false a b c d e f g i j k l m n o p q)) ∧ (∀ a b c d e f g i j k l m n o p, Le ((vref03_names_E C u).2.2.2.2.2.2.1 a b c d e f g i j k l m n o p) (vref03_names_L3 false a b c d e f g i j k l m n o p)) ∧ (∀ a b c d e f g i j k l m n o p, Le ((vref03_names_E C u).2.2.2.2.2.2.2 a b c d e f g i j k l m n o p) (vref03_names_L2 false a b c d e f g i j k l m n o p))
 | 0 => ⟨fun _ _ _ _ _ _ _ _ _ _ _ _ _ _ _ => Le.none _, fun _ _ _ _ _ _ _ _ _ _ _ _ _ _ _ _ => Le.none _, fun _ _ _ _ _ _ _ _ _ _ _ _ _ => Le.none _, fun _ _ _ _ _ _ _ _ _ _ _ _ _ _ _ _ _ => Le.none _, fun _ _ _ _ _ _ _ _ _ _ _ _ _ _ _ _ _ _ => Le.none _, fun _ _ _ _ _ _ _ _ _ _ _ _ _ _ _ _ => Le.none _, fun _ _ _ _ _ _ _ _ _ _ _ _ _ _ _ => Le.none _, fun _ _ _ _ _ _ _ _ _ _ _ _ _ _ _ => Le.none _⟩
 | u + 1 => by
  obtain ⟨h1, h2, h3, h4, h5, h6, h7, h8⟩ := vref03_names_E_le hC u
  exact ⟨(by intros; refine lt ?_ vref03_names_J1_of; simp only [vref03_names_E]; unfold vref03_names_J1_b; with_reducible repeat' first | intro _ | exact Le.refl _ | exact hC .. | exact h2 .. | exact Le.callV hC | apply Le.bind | apply Le.ite), (by intros; refine lt ?_ vref03_names_J2_of; simp only [vref03_names_E]; unfold vref03_names_J2_b; with_reducible repeat' first | intro _ | exact Le.refl _ | exact hC .. | exact h3 .. | exact Le.callV hC | apply Le.bind | apply Le.ite), (by intros; refine lt ?_ vref03_names_L1_of; simp only [vref03_names_E]; unfold vref03_names_L1_b; with_reducible repeat' first | intro _ | exact Le.refl _ | exact hC .. | exact h1 .. | exact h8 .. | exact Le.callV hC | apply Le.bind | apply Le.ite), (by intros; refine lt ?_ vref03_names_J3_of; simp only [vref03_names_E]; unfold vref03_names_J3_b; with_reducible repeat' first | intro _ | exact Le.refl _ | exact hC .. | exact h5 .. | exact Le.callV hC | apply Le.bind | apply Le.ite), (by intros; refine lt ?_ vref03_names_J4_of; simp only [vref03_names_E]; unfold vref03_names_J4_b; with_reducible repeat' first | intro _ | exact Le.refl _ | exact hC .. | exact h7 .. | exact Le.callV hC | apply Le.bind | apply Le.ite), (by intros; refine lt ?_ vref03_names_J5_of; simp only [vref03_names_E]; unfold vref03_names_J5_b; with_reducible repeat' first | intro _ | exact Le.refl _ | exact hC .. | exact h7 .. | exact h8 .. | exact Le.callV hC | apply Le.bind | apply Le.ite), (by intros; refine lt ?_ vref03_names_L3_of; simp only [vref03_names_E]; unfold vref03_names_L3_b; with_reducible repeat' first | intro _ | exact Le.refl _ | exact hC .. | exact h6 .. | exact Le.callV hC | apply Le.bind | apply Le.ite), (by intros; refine lt ?_ vref03_names_L2_of; simp only [vref03_names_E]; unfold vref03_names_L2_b; with_reducible repeat' first | intro _ | exact Le.refl _ | exact hC .. | exact h4 .. | exact Le.callV hC | apply Le.bind | apply Le.ite)⟩
def vref03_names_e (C : CallF) (u : Nat) (args : List PV) (S0 : St) : Rs := match args with
 | [(.str text)] => vref03_names_b false C (vref03_names_E C u).2.2.1 S0 text
 | _ => none
theorem vref03_names_e_le : LeE n_vref03_names vref03_names_e := by
 intro C hC u args S; unfold vref03_names_e; split
 · obtain ⟨h1, h2, h3, h4, h5, h6, h7, h8⟩ := vref03_names_E_le hC u; refine lt ?_ vref03_names_of; unfold vref03_names_b; with_reducible repeat' first | intro _ | exact Le.refl _ | exact hC .. | exact h3 .. | exact Le.callV hC | apply Le.bind | apply Le.ite
 · exact Le.none _
def vref03_parseTerm_E (C : CallF) : Nat → vref03_parseTerm_J1_t × vref03_parseTerm_J2_t × vref03_parseTerm_J3_t × vref03_parseTerm_L1_t
 | 0 => (fun _ _ _ _ _ _ _ _ _ _ _ _ _ _ _ => none, fun _ _ _ _ _ _ _ _ _ _ _ _ _ _ _ _ _ => none, fun _ _ _ _ _ _ _ _ _ _ _ _ _ _ _ _ _ => none, fun _ _ _ _ _ _ _ _ _ _ _ _ _ _ => none)
 | u + 1 => (vref03_parseTerm_J1_b false C (vref03_parseTerm_E C u).2.1 (vref03_parseTerm_E C u).2.2.1, vref03_parseTerm_J2_b false C (vref03_parseTerm_E C u).2.2.1, vref03_parseTerm_J3_b false C (vref03_parseTerm_E C u).2.2.2, vref03_parseTerm_L1_b false C (vref03_parseTerm_E C u).1)
theorem vref03_parseTerm_E_le {C : CallF} (hC : LeC C) : ∀ u, (∀ a b c d e f g i j k l m n o p, Le ((vref03_parseTerm_E C u).1 a b c d e f g i j k l m n o p) (vref03_parseTerm_J1 false a b c d e f g i j k l m n o p)) ∧ (∀ a b c d e f g i j k l m n o p q r, Le ((vref03_parseTerm_E C u).2.1 a b c d e f g i j k l m n o p q r) (vref03_parseTerm_J2 false a b c d e f g i j k l m n o p q r)) ∧ (∀ a b c d e f g i j k l m n o p q r, Le ((vref03_parseTerm_E C u).2.2.1 a b c d e f g i j k l m n o p q r) (vref03_parseTerm_J3 false a b c d e f g i j k l m n o p q r)) ∧ (∀ a b c d e f g i j k l m n o, Le ((vref03_parseTerm_E C u).2.2.2 a b c d e f g i j k l m n o) (vref03_parseTerm_L1 false a b c d e f g i j k l m n o))
 | 0 => ⟨fun _ _ _ _ _ _ _ _ _ _ _ _ _ _ _ => Le.none _, fun _ _ _ _ _ _ _ _ _ _ _ _ _ _ _ _ _ => Le.none _, fun _ _ _ _ _ _ _ _ _ _ _ _ _ _ _ _ _ => Le.none _, fun _ _ _ _ _ _ _ _ _ _ _ _ _ _ => Le.none _⟩
 | u + 1 => by
  obtain ⟨h1, h2, h3, h4⟩ := vref03_parseTerm_E_le hC u
  exact ⟨(by intros; refine lt ?_ vref03_parseTerm_J1_of; simp only [vref03_parseTerm_E]; unfold vref03_parseTerm_J1_b; with_reducible repeat' first | intro _ | exact Le.refl _ | exact hC .. | exact h2 .. | exact h3 .. | exact Le.callV hC | apply Le.bind | apply Le.ite), (by intros; refine lt ?_ vref03_parseTerm_J2_of; simp only [vref03_parseTerm_E]; unfold vref03_parseTerm_J2_b; with_reducible repeat' first | intro _ | exact Le.refl _ | exact hC .. | exact h3 .. | exact Le.callV hC | apply Le.bind | apply Le.ite), (by intros; refine lt ?_ vref03_parseTerm_J3_of; simp only [vref03_parseTerm_E]; unfold vref03_parseTerm_J3_b; with_reducible repeat' first | intro _ | exact Le.refl _ | exact hC .. | exact h4 .. | exact Le.callV hC | apply Le.bind | apply Le.ite), (by intros; refine lt ?_ vref03_parseTerm_L1_of; simp only [vref03_parseTerm_E]; unfold vref03_parseTerm_L1_b; with_reducible repeat' first | intro _ | exact Le.refl _ | exact hC .. | exact h1 .. | exact Le.callV hC | apply Le.bind | apply Le.ite)⟩
def vref03_parseTerm_e (C : CallF) (u : Nat) (args : List PV) (S0 : St) : Rs := match args with
 | [(.agg [s_Syms, s_Funs]), (.str text), (.int .i64 at_)] => vref03_parseTerm_b false C (vref03_parseTerm_E C u).2.2.2 S0 s_Syms s_Funs text at_
 | _ => none
theorem vref03_parseTerm_e_le : LeE n_vref03_parseTerm vref03_parseTerm_e := by
 intro C hC u args S; unfold vref03_parseTerm_e; split
 · obtain ⟨h1, h2, h3, h4⟩ := vref03_parseTerm_E_le hC u; refine lt ?_ vref03_parseTerm_of; unfold vref03_parseTerm_b; with_reducible repeat' first | intro _ | exact Le.refl _ | exact hC .. | exact h4 .. | exact Le.callV hC | apply Le.bind | apply Le.ite
 · exact Le.none _
end
end Go.Proofs.YtjdknnlhhenpnaaGreatDoor
namespace Go.Proofs.YtjdknnlhhenpnaaGreatDoor
open Go Go.Abs
noncomputable section
def vref03_begins_e (C : CallF) (u : Nat) (args : List PV) (S0 : St) : Rs := match args with
 | [(.str text), (.int .i64 at_), (.str what)] => vref03_begins_b false C  S0 text at_ what
 | _ => none
theorem vref03_begins_e_le : LeE n_vref03_begins vref03_begins_e := by
 intro C hC u args S; unfold vref03_begins_e; split
 · refine lt ?_ vref03_begins_of; unfold vref03_begins_b; with_reducible repeat' first | intro _ | exact Le.refl _ | exact hC .. | exact Le.callV hC | apply Le.bind | apply Le.ite
 · exact Le.none _
def vref03_Is_E (C : CallF) : Nat → vref03_Is_J1_t × vref03_Is_J2_t × vref03_Is_L2_t × vref03_Is_L1_t × vref03_Is_J3_t × vref03_Is_L3_t
 | 0 => (fun _ _ _ _ _ => none, fun _ _ _ _ _ _ _ _ _ _ _ _ => none, fun _ _ _ _ _ _ _ _ _ _ _ _ _ _ _ => none, fun _ _ _ _ _ _ => none, fun _ _ _ _ _ _ _ => none, fun _ _ _ _ _ _ => none)
 | u + 1 => (vref03_Is_J1_b false C (vref03_Is_E C u).2.2.2.1, vref03_Is_J2_b false C (vref03_Is_E C u).2.2.1, vref03_Is_L2_b false C (vref03_Is_E C u).2.2.1 (vref03_Is_E C u).2.2.2.1, vref03_Is_L1_b false C (vref03_Is_E C u).2.1 (vref03_Is_E C u).2.2.2.2.2, vref03_Is_J3_b false C (vref03_Is_E C u).2.2.2.2.2, vref03_Is_L3_b false C (vref03_Is_E C u).2.2.2.2.1)
theorem vref03_Is_E_le {C : CallF} (hC : LeC C) : ∀ u, (∀ a b c d e, Le ((vref03_Is_E C u).1 a b c d e) (vref03_Is_J1 false a b c d e)) ∧ (∀ a b c d e f g i j k l m, Le ((vref03_Is_E C u).2.1 a b c d e f g i j k l m) (vref03_Is_J2 false a b c d e f g i j k l m)) ∧ (∀ a b c d e f g i j k l m n o p, Le ((vref03_Is_E C u).2.2.1 a b c d e f g i j k l m n o p) (vref03_Is_L2 false a b c d e f g i j k l m n o p)) ∧ (∀ a b c d e f, Le ((vref03_Is_E C u).2.2.2.1 a b c d e f) (vref03_Is_L1 false a b c d e f)) ∧ (∀ a b c d e f g, Le ((vref03_Is_E C u).2.2.2.2.1 a b c d e f g) (vref03_Is_J3 false a b c d e f g)) ∧ (∀ a b c d e f, Le ((vref03_Is_E C u).2.2.2.2.2 a b c d e f) (vref03_Is_L3 false a b c d e f))
 | 0 => ⟨fun _ _ _ _ _ => Le.none _, fun _ _ _ _ _ _ _ _ _ _ _ _ => Le.none _, fun _ _ _ _ _ _ _ _ _ _ _ _ _ _ _ => Le.none _, fun _ _ _ _ _ _ => Le.none _, fun _ _ _ _ _ _ _ => Le.none _, fun _ _ _ _ _ _ => Le.none _⟩
 | u + 1 => by
  obtain ⟨h1, h2, h3, h4, h5, h6⟩ := vref03_Is_E_le hC u
  exact ⟨(by intros; refine lt ?_ vref03_Is_J1_of; simp only [vref03_Is_E]; unfold vref03_Is_J1_b; with_reducible repeat' first | intro _ | exact Le.refl _ | exact hC .. | exact h4 .. | exact Le.callV hC | apply Le.bind | apply Le.ite), (by intros; refine lt ?_ vref03_Is_J2_of; simp only [vref03_Is_E]; unfold vref03_Is_J2_b; with_reducible repeat' first | intro _ | exact Le.refl _ | exact hC .. | exact h3 .. | exact Le.callV hC | apply Le.bind | apply Le.ite), (by intros; refine lt ?_ vref03_Is_L2_of; simp only [vref03_Is_E]; unfold vref03_Is_L2_b; with_reducible repeat' first | intro _ | exact Le.refl _ | exact hC .. | exact h3 .. | exact h4 .. | exact Le.callV hC | apply Le.bind | apply Le.ite), (by intros; refine lt ?_ vref03_Is_L1_of; simp only [vref03_Is_E]; unfold vref03_Is_L1_b; with_reducible repeat' first | intro _ | exact Le.refl _ | exact hC .. | exact h2 .. | exact h6 .. | exact Le.callV hC | apply Le.bind | apply Le.ite), (by intros; refine lt ?_ vref03_Is_J3_of; simp only [vref03_Is_E]; unfold vref03_Is_J3_b; with_reducible repeat' first | intro _ | exact Le.refl _ | exact hC .. | exact h6 .. | exact Le.callV hC | apply Le.bind | apply Le.ite), (by intros; refine lt ?_ vref03_Is_L3_of; simp only [vref03_Is_E]; unfold vref03_Is_L3_b; with_reducible repeat' first | intro _ | exact Le.refl _ | exact hC .. | exact h5 .. | exact Le.callV hC | apply Le.bind | apply Le.ite)⟩
def vref03_Is_e (C : CallF) (u : Nat) (args : List PV) (S0 : St) : Rs := match args with
 | [(.agg [s_Syms, s_Funs])] => vref03_Is_b false C (vref03_Is_E C u).1 S0 s_Syms s_Funs
 | _ => none
theorem vref03_Is_e_le : LeE n_vref03_Is vref03_Is_e := by
 intro C hC u args S; unfold vref03_Is_e; split
 · obtain ⟨h1, h2, h3, h4, h5, h6⟩ := vref03_Is_E_le hC u; refine lt ?_ vref03_Is_of; unfold vref03_Is_b; with_reducible repeat' first | intro _ | exact Le.refl _ | exact hC .. | exact h1 .. | exact Le.callV hC | apply Le.bind | apply Le.ite
 · exact Le.none _
def vref09_reader_must_e (C : CallF) (u : Nat) (args : List PV) (S0 : St) : Rs := match args with
 | [(.ref ri 0), (.str what)] => vref09_reader_must_b false C  S0 ri what
 | _ => none
theorem vref09_reader_must_e_le : LeE n_vref09_reader_must vref09_reader_must_e := by
 intro C hC u args S; unfold vref09_reader_must_e; split
 · refine lt ?_ vref09_reader_must_of; unfold vref09_reader_must_b; with_reducible repeat' first | intro _ | exact Le.refl _ | exact hC .. | exact Le.callV hC | apply Le.bind | apply Le.ite
 · exact Le.none _
def vref09_reader_is_E (C : CallF) : Nat → vref09_reader_is_J1_t
 | 0 => fun _ _ _ _ _ _ => none
 | u + 1 => vref09_reader_is_J1_b false C
theorem vref09_reader_is_E_le {C : CallF} (hC : LeC C) : ∀ u, (∀ a b c d e f, Le ((vref09_reader_is_E C u) a b c d e f) (vref09_reader_is_J1 false a b c d e f))
 | 0 => fun _ _ _ _ _ _ => Le.none _
 | u + 1 => by
  have h1 := vref09_reader_is_E_le hC u
  exact by intros; refine lt ?_ vref09_reader_is_J1_of; simp only [vref09_reader_is_E]; unfold vref09_reader_is_J1_b; with_reducible repeat' first | intro _ | exact Le.refl _ | exact hC .. | exact Le.callV hC | apply Le.bind | apply Le.ite
def vref09_reader_is_e (C : CallF) (u : Nat) (args : List PV) (S0 : St) : Rs := match args with
 | [(.ref ri 0), (.str what)] => vref09_reader_is_b false C (vref09_reader_is_E C u) S0 ri what
 | _ => none
theorem vref09_reader_is_e_le : LeE n_vref09_reader_is vref09_reader_is_e := by
 intro C hC u args S; unfold vref09_reader_is_e; split
 · have h1 := vref09_reader_is_E_le hC u; refine lt ?_ vref09_reader_is_of; unfold vref09_reader_is_b; with_reducible repeat' first | intro _ | exact Le.refl _ | exact hC .. | exact h1 .. | exact Le.callV hC | apply Le.bind | apply Le.ite
 · exact Le.none _
def vref09_reader_number_E (C : CallF) : Nat → vref09_reader_number_J1_t × vref09_reader_number_L1_t × vref09_reader_number_J2_t × vref09_reader_number_J3_t
 | 0 => (fun _ _ _ _ _ _ _ => none, fun _ _ _ _ _ _ => none, fun _ _ _ _ _ _ => none, fun _ _ _ _ _ => none)
 | u + 1 => (vref09_reader_number_J1_b false C (vref09_reader_number_E C u).2.1 (vref09_reader_number_E C u).2.2.1, vref09_reader_number_L1_b false C (vref09_reader_number_E C u).1, vref09_reader_number_J2_b false C (vref09_reader_number_E C u).2.2.2, vref09_reader_number_J3_b false C )
theorem vref09_reader_number_E_le {C : CallF} (hC : LeC C) : ∀ u, (∀ a b c d e f g, Le ((vref09_reader_number_E C u).1 a b c d e f g) (vref09_reader_number_J1 false a b c d e f g)) ∧ (∀ a b c d e f, Le ((vref09_reader_number_E C u).2.1 a b c d e f) (vref09_reader_number_L1 false a b c d e f)) ∧ (∀ a b c d e f, Le ((vref09_reader_number_E C u).2.2.1 a b c d e f) (vref09_reader_number_J2 false a b c d e f)) ∧ (∀ a b c d e, Le ((vref09_reader_number_E C u).2.2.2 a b c d e) (vref09_reader_number_J3 false a b c d e))
 | 0 => ⟨fun _ _ _ _ _ _ _ => Le.none _, fun _ _ _ _ _ _ => Le.none _, fun _ _ _ _ _ _ => Le.none _, fun _ _ _ _ _ => Le.none _⟩
 | u + 1 => by
  obtain ⟨h1, h2, h3, h4⟩ := vref09_reader_number_E_le hC u
  exact ⟨(by intros; refine lt ?_ vref09_reader_number_J1_of; simp only [vref09_reader_number_E]; unfold vref09_reader_number_J1_b; with_reducible repeat' first | intro _ | exact Le.refl _ | exact hC .. | exact h2 .. | exact h3 .. | exact Le.callV hC | apply Le.bind | apply Le.ite), (by intros; refine lt ?_ vref09_reader_number_L1_of; simp only [vref09_reader_number_E]; unfold vref09_reader_number_L1_b; with_reducible repeat' first | intro _ | exact Le.refl _ | exact hC .. | exact h1 .. | exact Le.callV hC | apply Le.bind | apply Le.ite), (by intros; refine lt ?_ vref09_reader_number_J2_of; simp only [vref09_reader_number_E]; unfold vref09_reader_number_J2_b; with_reducible repeat' first | intro _ | exact Le.refl _ | exact hC .. | exact h4 .. | exact Le.callV hC | apply Le.bind | apply Le.ite), (by intros; refine lt ?_ vref09_reader_number_J3_of; simp only [vref09_reader_number_E]; unfold vref09_reader_number_J3_b; with_reducible repeat' first | intro _ | exact Le.refl _ | exact hC .. | exact Le.callV hC | apply Le.bind | apply Le.ite)⟩
def vref09_reader_number_e (C : CallF) (u : Nat) (args : List PV) (S0 : St) : Rs := match args with
 | [(.ref ri 0)] => vref09_reader_number_b false C (vref09_reader_number_E C u).2.1 S0 ri
 | _ => none
theorem vref09_reader_number_e_le : LeE n_vref09_reader_number vref09_reader_number_e := by
 intro C hC u args S; unfold vref09_reader_number_e; split
 · obtain ⟨h1, h2, h3, h4⟩ := vref09_reader_number_E_le hC u; refine lt ?_ vref09_reader_number_of; unfold vref09_reader_number_b; with_reducible repeat' first | intro _ | exact Le.refl _ | exact hC .. | exact h2 .. | exact Le.callV hC | apply Le.bind | apply Le.ite
 · exact Le.none _
def scheme_Ranks_E (C : CallF) : Nat → scheme_Ranks_L1_t
 | 0 => fun _ _ _ _ _ _ _ _ => none
 | u + 1 => scheme_Ranks_L1_b false C (scheme_Ranks_E C u)
theorem scheme_Ranks_E_le {C : CallF} (hC : LeC C) : ∀ u, (∀ a b c d e f g i, Le ((scheme_Ranks_E C u) a b c d e f g i) (scheme_Ranks_L1 false a b c d e f g i))
 | 0 => fun _ _ _ _ _ _ _ _ => Le.none _
 | u + 1 => by
  have h1 := scheme_Ranks_E_le hC u
  exact by intros; refine lt ?_ scheme_Ranks_L1_of; simp only [scheme_Ranks_E]; unfold scheme_Ranks_L1_b; with_reducible repeat' first | intro _ | exact Le.refl _ | exact hC .. | exact h1 .. | exact Le.callV hC | apply Le.bind | apply Le.ite
def scheme_Ranks_e (C : CallF) (u : Nat) (args : List PV) (S0 : St) : Rs := match args with
 | [(.agg [s_Syms, s_Funs])] => scheme_Ranks_b false C (scheme_Ranks_E C u) S0 s_Syms s_Funs
 | _ => none
theorem scheme_Ranks_e_le : LeE n_scheme_Ranks scheme_Ranks_e := by
 intro C hC u args S; unfold scheme_Ranks_e; split
 · have h1 := scheme_Ranks_E_le hC u; refine lt ?_ scheme_Ranks_of; unfold scheme_Ranks_b; with_reducible repeat' first | intro _ | exact Le.refl _ | exact hC .. | exact h1 .. | exact Le.callV hC | apply Le.bind | apply Le.ite
 · exact Le.none _
def auto_Check_E (C : CallF) : Nat → auto_Check_J1_t × auto_Check_J2_t × auto_Check_L3_t × auto_Check_L2_t × auto_Check_L1_t
 | 0 => (fun _ _ _ _ _ _ => none, fun _ _ _ _ _ _ _ _ _ _ _ _ _ _ _ _ _ _ _ _ => none, fun _ _ _ _ _ _ _ _ _ _ _ _ _ _ _ _ _ _ _ => none, fun _ _ _ _ _ _ _ _ _ _ _ _ _ => none, fun _ _ _ _ _ _ _ _ _ => none)
 | u + 1 => (auto_Check_J1_b false C (auto_Check_E C u).2.2.2.2, auto_Check_J2_b false C (auto_Check_E C u).2.2.1, auto_Check_L3_b false C (auto_Check_E C u).2.1 (auto_Check_E C u).2.2.2.1, auto_Check_L2_b false C (auto_Check_E C u).2.2.1 (auto_Check_E C u).2.2.2.2, auto_Check_L1_b false C (auto_Check_E C u).2.2.2.1)
theorem auto_Check_E_le {C : CallF} (hC : LeC C) : ∀ u, (∀ a b c d e f, Le ((auto_Check_E C u).1 a b c d e f) (auto_Check_J1 false a b c d e f)) ∧ (∀ a b c d e f g i j k l m n o p q r s t v, Le ((auto_Check_E C u).2.1 a b c d e f g i j k l m n o p q r s t v) (auto_Check_J2 false a b c d e f g i j k l m n o p q r s t v)) ∧ (∀ a b c d e f g i j k l m n o p q r s t, Le ((auto_Check_E C u).2.2.1 a b c d e f g i j k l m n o p q r s t) (auto_Check_L3 false a b c d e f g i j k l m n o p q r s t)) ∧ (∀ a b c d e f g i j k l m n, Le ((auto_Check_E C u).2.2.2.1 a b c d e f g i j k l m n) (auto_Check_L2 false a b c d e f g i j k l m n)) ∧ (∀ a b c d e f g i j, Le ((auto_Check_E C u).2.2.2.2 a b c d e f g i j) (auto_Check_L1 false a b c d e f g i j))
 | 0 => ⟨fun _ _ _ _ _ _ => Le.none _, fun _ _ _ _ _ _ _ _ _ _ _ _ _ _ _ _ _ _ _ _ => Le.none _, fun _ _ _ _ _ _ _ _ _ _ _ _ _ _ _ _ _ _ _ => Le.none _, fun _ _ _ _ _ _ _ _ _ _ _ _ _ => Le.none _, fun _ _ _ _ _ _ _ _ _ => Le.none _⟩
 | u + 1 => by
  obtain ⟨h1, h2, h3, h4, h5⟩ := auto_Check_E_le hC u
  exact ⟨(by intros; refine lt ?_ auto_Check_J1_of; simp only [auto_Check_E]; unfold auto_Check_J1_b; with_reducible repeat' first | intro _ | exact Le.refl _ | exact hC .. | exact h5 .. | exact Le.callV hC | apply Le.bind | apply Le.ite), (by intros; refine lt ?_ auto_Check_J2_of; simp only [auto_Check_E]; unfold auto_Check_J2_b; with_reducible repeat' first | intro _ | exact Le.refl _ | exact hC .. | exact h3 .. | exact Le.callV hC | apply Le.bind | apply Le.ite), (by intros; refine lt ?_ auto_Check_L3_of; simp only [auto_Check_E]; unfold auto_Check_L3_b; with_reducible repeat' first | intro _ | exact Le.refl _ | exact hC .. | exact h2 .. | exact h4 .. | exact Le.callV hC | apply Le.bind | apply Le.ite), (by intros; refine lt ?_ auto_Check_L2_of; simp only [auto_Check_E]; unfold auto_Check_L2_b; with_reducible repeat' first | intro _ | exact Le.refl _ | exact hC .. | exact h3 .. | exact h5 .. | exact Le.callV hC | apply Le.bind | apply Le.ite), (by intros; refine lt ?_ auto_Check_L1_of; simp only [auto_Check_E]; unfold auto_Check_L1_b; with_reducible repeat' first | intro _ | exact Le.refl _ | exact hC .. | exact h4 .. | exact Le.callV hC | apply Le.bind | apply Le.ite)⟩
def auto_Check_e (C : CallF) (u : Nat) (args : List PV) (S0 : St) : Rs := match args with
 | [(.agg [a_Ranks, (.int .i64 a_Start), a_Moves])] => auto_Check_b false C (auto_Check_E C u).1 S0 a_Ranks a_Start a_Moves
 | _ => none
theorem auto_Check_e_le : LeE n_auto_Check auto_Check_e := by
 intro C hC u args S; unfold auto_Check_e; split
 · obtain ⟨h1, h2, h3, h4, h5⟩ := auto_Check_E_le hC u; refine lt ?_ auto_Check_of; unfold auto_Check_b; with_reducible repeat' first | intro _ | exact Le.refl _ | exact hC .. | exact h1 .. | exact Le.callV hC | apply Le.bind | apply Le.ite
 · exact Le.none _
def slices_Equal_of_int_E (C : CallF) : Nat → slices_Equal_of_int_L1_t
 | 0 => fun _ _ _ _ _ _ => none
 | u + 1 => slices_Equal_of_int_L1_b false C (slices_Equal_of_int_E C u)
theorem slices_Equal_of_int_E_le {C : CallF} (hC : LeC C) : ∀ u, (∀ a b c d e f, Le ((slices_Equal_of_int_E C u) a b c d e f) (slices_Equal_of_int_L1 false a b c d e f))
 | 0 => fun _ _ _ _ _ _ => Le.none _
 | u + 1 => by
  have h1 := slices_Equal_of_int_E_le hC u
  exact by intros; refine lt ?_ slices_Equal_of_int_L1_of; simp only [slices_Equal_of_int_E]; unfold slices_Equal_of_int_L1_b; with_reducible repeat' first | intro _ | exact Le.refl _ | exact hC .. | exact h1 .. | exact Le.callV hC | apply Le.bind | apply Le.ite
def slices_Equal_of_int_e (C : CallF) (u : Nat) (args : List PV) (S0 : St) : Rs := match args with
 | [s1, s2] => slices_Equal_of_int_b false C (slices_Equal_of_int_E C u) S0 s1 s2
 | _ => none
theorem slices_Equal_of_int_e_le : LeE n_slices_Equal_of_int slices_Equal_of_int_e := by
 intro C hC u args S; unfold slices_Equal_of_int_e; split
 · have h1 := slices_Equal_of_int_E_le hC u; refine lt ?_ slices_Equal_of_int_of; unfold slices_Equal_of_int_b; with_reducible repeat' first | intro _ | exact Le.refl _ | exact hC .. | exact h1 .. | exact Le.callV hC | apply Le.bind | apply Le.ite
 · exact Le.none _
def slices_IndexFunc_of_api_Sort_E (C : CallF) : Nat → slices_IndexFunc_of_api_Sort_L1_t
 | 0 => fun _ _ _ _ _ _ => none
 | u + 1 => slices_IndexFunc_of_api_Sort_L1_b false C (slices_IndexFunc_of_api_Sort_E C u)
theorem slices_IndexFunc_of_api_Sort_E_le {C : CallF} (hC : LeC C) : ∀ u, (∀ a b c d e f, Le ((slices_IndexFunc_of_api_Sort_E C u) a b c d e f) (slices_IndexFunc_of_api_Sort_L1 false a b c d e f))
 | 0 => fun _ _ _ _ _ _ => Le.none _
 | u + 1 => by
  have h1 := slices_IndexFunc_of_api_Sort_E_le hC u
  exact by intros; refine lt ?_ slices_IndexFunc_of_api_Sort_L1_of; simp only [slices_IndexFunc_of_api_Sort_E]; unfold slices_IndexFunc_of_api_Sort_L1_b; with_reducible repeat' first | intro _ | exact Le.refl _ | exact hC .. | exact h1 .. | exact Le.callV hC | apply Le.bind | apply Le.ite
def slices_IndexFunc_of_api_Sort_e (C : CallF) (u : Nat) (args : List PV) (S0 : St) : Rs := match args with
 | [s, f] => slices_IndexFunc_of_api_Sort_b false C (slices_IndexFunc_of_api_Sort_E C u) S0 s f
 | _ => none
theorem slices_IndexFunc_of_api_Sort_e_le : LeE n_slices_IndexFunc_of_api_Sort slices_IndexFunc_of_api_Sort_e := by
 intro C hC u args S; unfold slices_IndexFunc_of_api_Sort_e; split
 · have h1 := slices_IndexFunc_of_api_Sort_E_le hC u; refine lt ?_ slices_IndexFunc_of_api_Sort_of; unfold slices_IndexFunc_of_api_Sort_b; with_reducible repeat' first | intro _ | exact Le.refl _ | exact hC .. | exact h1 .. | exact Le.callV hC | apply Le.bind | apply Le.ite
 · exact Le.none _
def sorts_Size_e (C : CallF) (u : Nat) (args : List PV) (S0 : St) : Rs := match args with
 | [(.agg [s_Args])] => sorts_Size_b false C  S0 s_Args
 | _ => none
theorem sorts_Size_e_le : LeE n_sorts_Size sorts_Size_e := by
 intro C hC u args S; unfold sorts_Size_e; split
 · refine lt ?_ sorts_Size_of; unfold sorts_Size_b; with_reducible repeat' first | intro _ | exact Le.refl _ | exact hC .. | exact Le.callV hC | apply Le.bind | apply Le.ite
 · exact Le.none _
def sorts_all_E (C : CallF) : Nat → sorts_all_L1_t
 | 0 => fun _ _ _ _ _ _ => none
 | u + 1 => sorts_all_L1_b false C (sorts_all_E C u)
theorem sorts_all_E_le {C : CallF} (hC : LeC C) : ∀ u, (∀ a b c d e f, Le ((sorts_all_E C u) a b c d e f) (sorts_all_L1 false a b c d e f))
 | 0 => fun _ _ _ _ _ _ => Le.none _
 | u + 1 => by
  have h1 := sorts_all_E_le hC u
  exact by intros; refine lt ?_ sorts_all_L1_of; simp only [sorts_all_E]; unfold sorts_all_L1_b; with_reducible repeat' first | intro _ | exact Le.refl _ | exact hC .. | exact h1 .. | exact Le.callV hC | apply Le.bind | apply Le.ite
def sorts_all_e (C : CallF) (u : Nat) (args : List PV) (S0 : St) : Rs := match args with
 | [(.agg [s_Args]), is_] => sorts_all_b false C (sorts_all_E C u) S0 s_Args is_
 | _ => none
theorem sorts_all_e_le : LeE n_sorts_all sorts_all_e := by
 intro C hC u args S; unfold sorts_all_e; split
 · have h1 := sorts_all_E_le hC u; refine lt ?_ sorts_all_of; unfold sorts_all_b; with_reducible repeat' first | intro _ | exact Le.refl _ | exact hC .. | exact h1 .. | exact Le.callV hC | apply Le.bind | apply Le.ite
 · exact Le.none _
def sorts_Check_1_e (C : CallF) (u : Nat) (args : List PV) (S0 : St) : Rs := match args with
 | [(.agg [s_Args])] => sorts_Check_1_b false C  S0 s_Args
 | _ => none
theorem sorts_Check_1_e_le : LeE n_sorts_Check_1 sorts_Check_1_e := by
 intro C hC u args S; unfold sorts_Check_1_e; split
 · refine lt ?_ sorts_Check_1_of; unfold sorts_Check_1_b; with_reducible repeat' first | intro _ | exact Le.refl _ | exact hC .. | exact Le.callV hC | apply Le.bind | apply Le.ite
 · exact Le.none _
def inter_place_E (C : CallF) : Nat → inter_place_J1_t
 | 0 => fun _ _ _ => none
 | u + 1 => inter_place_J1_b false C
theorem inter_place_E_le {C : CallF} (hC : LeC C) : ∀ u, (∀ a b c, Le ((inter_place_E C u) a b c) (inter_place_J1 false a b c))
 | 0 => fun _ _ _ => Le.none _
 | u + 1 => by
  have h1 := inter_place_E_le hC u
  exact by intros; refine lt ?_ inter_place_J1_of; simp only [inter_place_E]; unfold inter_place_J1_b; with_reducible repeat' first | intro _ | exact Le.refl _ | exact hC .. | exact Le.callV hC | apply Le.bind | apply Le.ite
def inter_place_e (C : CallF) (u : Nat) (args : List PV) (S0 : St) : Rs := match args with
 | [(.agg [s_Args]), (.int .i64 states)] => inter_place_b false C (inter_place_E C u) S0 s_Args states
 | _ => none
theorem inter_place_e_le : LeE n_inter_place inter_place_e := by
 intro C hC u args S; unfold inter_place_e; split
 · have h1 := inter_place_E_le hC u; refine lt ?_ inter_place_of; unfold inter_place_b; with_reducible repeat' first | intro _ | exact Le.refl _ | exact hC .. | exact h1 .. | exact Le.callV hC | apply Le.bind | apply Le.ite
 · exact Le.none _
def inter_fit_E (C : CallF) : Nat → inter_fit_J1_t × inter_fit_L1_t
 | 0 => (fun _ _ _ _ _ _ _ _ => none, fun _ _ _ _ _ _ _ => none)
 | u + 1 => (inter_fit_J1_b false C (inter_fit_E C u).2, inter_fit_L1_b false C (inter_fit_E C u).1)
theorem inter_fit_E_le {C : CallF} (hC : LeC C) : ∀ u, (∀ a b c d e f g i, Le ((inter_fit_E C u).1 a b c d e f g i) (inter_fit_J1 false a b c d e f g i)) ∧ (∀ a b c d e f g, Le ((inter_fit_E C u).2 a b c d e f g) (inter_fit_L1 false a b c d e f g))
 | 0 => ⟨fun _ _ _ _ _ _ _ _ => Le.none _, fun _ _ _ _ _ _ _ => Le.none _⟩
 | u + 1 => by
  obtain ⟨h1, h2⟩ := inter_fit_E_le hC u
  exact ⟨(by intros; refine lt ?_ inter_fit_J1_of; simp only [inter_fit_E]; unfold inter_fit_J1_b; with_reducible repeat' first | intro _ | exact Le.refl _ | exact hC .. | exact h2 .. | exact Le.callV hC | apply Le.bind | apply Le.ite), (by intros; refine lt ?_ inter_fit_L1_of; simp only [inter_fit_E]; unfold inter_fit_L1_b; with_reducible repeat' first | intro _ | exact Le.refl _ | exact hC .. | exact h1 .. | exact Le.callV hC | apply Le.bind | apply Le.ite)⟩
def inter_fit_e (C : CallF) (u : Nat) (args : List PV) (S0 : St) : Rs := match args with
 | [(.agg [s_Args]), (.int .i64 states), set_] => inter_fit_b false C (inter_fit_E C u).2 S0 s_Args states set_
 | _ => none
theorem inter_fit_e_le : LeE n_inter_fit inter_fit_e := by
 intro C hC u args S; unfold inter_fit_e; split
 · obtain ⟨h1, h2⟩ := inter_fit_E_le hC u; refine lt ?_ inter_fit_of; unfold inter_fit_b; with_reducible repeat' first | intro _ | exact Le.refl _ | exact hC .. | exact h2 .. | exact Le.callV hC | apply Le.bind | apply Le.ite
 · exact Le.none _
def slices_IndexFunc_of_api_Bind_E (C : CallF) : Nat → slices_IndexFunc_of_api_Bind_L1_t
 | 0 => fun _ _ _ _ _ _ => none
 | u + 1 => slices_IndexFunc_of_api_Bind_L1_b false C (slices_IndexFunc_of_api_Bind_E C u)
theorem slices_IndexFunc_of_api_Bind_E_le {C : CallF} (hC : LeC C) : ∀ u, (∀ a b c d e f, Le ((slices_IndexFunc_of_api_Bind_E C u) a b c d e f) (slices_IndexFunc_of_api_Bind_L1 false a b c d e f))
 | 0 => fun _ _ _ _ _ _ => Le.none _
 | u + 1 => by
  have h1 := slices_IndexFunc_of_api_Bind_E_le hC u
  exact by intros; refine lt ?_ slices_IndexFunc_of_api_Bind_L1_of; simp only [slices_IndexFunc_of_api_Bind_E]; unfold slices_IndexFunc_of_api_Bind_L1_b; with_reducible repeat' first | intro _ | exact Le.refl _ | exact hC .. | exact h1 .. | exact Le.callV hC | apply Le.bind | apply Le.ite
def slices_IndexFunc_of_api_Bind_e (C : CallF) (u : Nat) (args : List PV) (S0 : St) : Rs := match args with
 | [s, f] => slices_IndexFunc_of_api_Bind_b false C (slices_IndexFunc_of_api_Bind_E C u) S0 s f
 | _ => none
theorem slices_IndexFunc_of_api_Bind_e_le : LeE n_slices_IndexFunc_of_api_Bind slices_IndexFunc_of_api_Bind_e := by
 intro C hC u args S; unfold slices_IndexFunc_of_api_Bind_e; split
 · have h1 := slices_IndexFunc_of_api_Bind_E_le hC u; refine lt ?_ slices_IndexFunc_of_api_Bind_of; unfold slices_IndexFunc_of_api_Bind_b; with_reducible repeat' first | intro _ | exact Le.refl _ | exact hC .. | exact h1 .. | exact Le.callV hC | apply Le.bind | apply Le.ite
 · exact Le.none _
def vref01_Nodes_E (C : CallF) : Nat → vref01_Nodes_J1_t × vref01_Nodes_L1_t
 | 0 => (fun _ _ _ _ _ _ _ => none, fun _ _ _ _ _ _ => none)
 | u + 1 => (vref01_Nodes_J1_b false C (vref01_Nodes_E C u).2, vref01_Nodes_L1_b false C (vref01_Nodes_E C u).1)
theorem vref01_Nodes_E_le {C : CallF} (hC : LeC C) : ∀ u, (∀ a b c d e f g, Le ((vref01_Nodes_E C u).1 a b c d e f g) (vref01_Nodes_J1 false a b c d e f g)) ∧ (∀ a b c d e f, Le ((vref01_Nodes_E C u).2 a b c d e f) (vref01_Nodes_L1 false a b c d e f))
 | 0 => ⟨fun _ _ _ _ _ _ _ => Le.none _, fun _ _ _ _ _ _ => Le.none _⟩
 | u + 1 => by
  obtain ⟨h1, h2⟩ := vref01_Nodes_E_le hC u
  exact ⟨(by intros; refine lt ?_ vref01_Nodes_J1_of; simp only [vref01_Nodes_E]; unfold vref01_Nodes_J1_b; with_reducible repeat' first | intro _ | exact Le.refl _ | exact hC .. | exact h2 .. | exact Le.callV hC | apply Le.bind | apply Le.ite), (by intros; refine lt ?_ vref01_Nodes_L1_of; simp only [vref01_Nodes_E]; unfold vref01_Nodes_L1_b; with_reducible repeat' first | intro _ | exact Le.refl _ | exact hC .. | exact h1 .. | exact Le.callV hC | apply Le.bind | apply Le.ite)⟩
def vref01_Nodes_e (C : CallF) (u : Nat) (args : List PV) (S0 : St) : Rs := match args with
 | [(.agg [s_Args]), (.int .i64 most)] => vref01_Nodes_b false C (vref01_Nodes_E C u).2 S0 s_Args most
 | _ => none
theorem vref01_Nodes_e_le : LeE n_vref01_Nodes vref01_Nodes_e := by
 intro C hC u args S; unfold vref01_Nodes_e; split
 · obtain ⟨h1, h2⟩ := vref01_Nodes_E_le hC u; refine lt ?_ vref01_Nodes_of; unfold vref01_Nodes_b; with_reducible repeat' first | intro _ | exact Le.refl _ | exact hC .. | exact h2 .. | exact Le.callV hC | apply Le.bind | apply Le.ite
 · exact Le.none _
end
end Go.Proofs.YtjdknnlhhenpnaaGreatDoor
namespace Go.Proofs.YtjdknnlhhenpnaaGreatDoor
open Go Go.Abs
noncomputable section
def vref01_depth_E (C : CallF) : Nat → vref01_depth_L1_t
 | 0 => fun _ _ _ _ _ _ => none
 | u + 1 => vref01_depth_L1_b false C (vref01_depth_E C u)
theorem vref01_depth_E_le {C : CallF} (hC : LeC C) : ∀ u, (∀ a b c d e f, Le ((vref01_depth_E C u) a b c d e f) (vref01_depth_L1 false a b c d e f))
 | 0 => fun _ _ _ _ _ _ => Le.none _
 | u + 1 => by
  have h1 := vref01_depth_E_le hC u
  exact by intros; refine lt ?_ vref01_depth_L1_of; simp only [vref01_depth_E]; unfold vref01_depth_L1_b; with_reducible repeat' first | intro _ | exact Le.refl _ | exact hC .. | exact h1 .. | exact Le.callV hC | apply Le.bind | apply Le.ite
def vref01_depth_e (C : CallF) (u : Nat) (args : List PV) (S0 : St) : Rs := match args with
 | [(.agg [s_Args])] => vref01_depth_b false C (vref01_depth_E C u) S0 s_Args
 | _ => none
theorem vref01_depth_e_le : LeE n_vref01_depth vref01_depth_e := by
 intro C hC u args S; unfold vref01_depth_e; split
 · have h1 := vref01_depth_E_le hC u; refine lt ?_ vref01_depth_of; unfold vref01_depth_b; with_reducible repeat' first | intro _ | exact Le.refl _ | exact hC .. | exact h1 .. | exact Le.callV hC | apply Le.bind | apply Le.ite
 · exact Le.none _
def vref01_few_E (C : CallF) : Nat → vref01_few_L1_t
 | 0 => fun _ _ _ _ _ => none
 | u + 1 => vref01_few_L1_b false C (vref01_few_E C u)
theorem vref01_few_E_le {C : CallF} (hC : LeC C) : ∀ u, (∀ a b c d e, Le ((vref01_few_E C u) a b c d e) (vref01_few_L1 false a b c d e))
 | 0 => fun _ _ _ _ _ => Le.none _
 | u + 1 => by
  have h1 := vref01_few_E_le hC u
  exact by intros; refine lt ?_ vref01_few_L1_of; simp only [vref01_few_E]; unfold vref01_few_L1_b; with_reducible repeat' first | intro _ | exact Le.refl _ | exact hC .. | exact h1 .. | exact Le.callV hC | apply Le.bind | apply Le.ite
def vref01_few_e (C : CallF) (u : Nat) (args : List PV) (S0 : St) : Rs := match args with
 | [(.agg [s_Args])] => vref01_few_b false C (vref01_few_E C u) S0 s_Args
 | _ => none
theorem vref01_few_e_le : LeE n_vref01_few vref01_few_e := by
 intro C hC u args S; unfold vref01_few_e; split
 · have h1 := vref01_few_E_le hC u; refine lt ?_ vref01_few_of; unfold vref01_few_b; with_reducible repeat' first | intro _ | exact Le.refl _ | exact hC .. | exact h1 .. | exact Le.callV hC | apply Le.bind | apply Le.ite
 · exact Le.none _
def scheme_Place_E (C : CallF) : Nat → scheme_Place_L1_t
 | 0 => fun _ _ _ _ _ _ _ _ _ _ _ _ => none
 | u + 1 => scheme_Place_L1_b false C (scheme_Place_E C u)
theorem scheme_Place_E_le {C : CallF} (hC : LeC C) : ∀ u, (∀ a b c d e f g i j k l m, Le ((scheme_Place_E C u) a b c d e f g i j k l m) (scheme_Place_L1 false a b c d e f g i j k l m))
 | 0 => fun _ _ _ _ _ _ _ _ _ _ _ _ => Le.none _
 | u + 1 => by
  have h1 := scheme_Place_E_le hC u
  exact by intros; refine lt ?_ scheme_Place_L1_of; simp only [scheme_Place_E]; unfold scheme_Place_L1_b; with_reducible repeat' first | intro _ | exact Le.refl _ | exact hC .. | exact h1 .. | exact Le.callV hC | apply Le.bind | apply Le.ite
def scheme_Place_e (C : CallF) (u : Nat) (args : List PV) (S0 : St) : Rs := match args with
 | [(.agg [s_Syms, s_Funs]), params] => scheme_Place_b false C (scheme_Place_E C u) S0 s_Syms s_Funs params
 | _ => none
theorem scheme_Place_e_le : LeE n_scheme_Place scheme_Place_e := by
 intro C hC u args S; unfold scheme_Place_e; split
 · have h1 := scheme_Place_E_le hC u; refine lt ?_ scheme_Place_of; unfold scheme_Place_b; with_reducible repeat' first | intro _ | exact Le.refl _ | exact hC .. | exact h1 .. | exact Le.callV hC | apply Le.bind | apply Le.ite
 · exact Le.none _
def term_Place_Of_e (C : CallF) (u : Nat) (args : List PV) (S0 : St) : Rs := match args with
 | [(.agg [p_Syms, p_Funs, p_Params]), (.agg [(.int .i64 t_Kind), (.int .i64 t_N), t_Args])] => term_Place_Of_b false C  S0 p_Syms p_Funs p_Params t_Kind t_N t_Args
 | _ => none
theorem term_Place_Of_e_le : LeE n_term_Place_Of term_Place_Of_e := by
 intro C hC u args S; unfold term_Place_Of_e; split
 · refine lt ?_ term_Place_Of_of; unfold term_Place_Of_b; with_reducible repeat' first | intro _ | exact Le.refl _ | exact hC .. | exact Le.callV hC | apply Le.bind | apply Le.ite
 · exact Le.none _
def inter_fits_E (C : CallF) : Nat → inter_fits_J1_t × inter_fits_L1_t
 | 0 => (fun _ _ _ _ _ _ _ => none, fun _ _ _ _ _ _ _ => none)
 | u + 1 => (inter_fits_J1_b false C (inter_fits_E C u).2, inter_fits_L1_b false C (inter_fits_E C u).2)
theorem inter_fits_E_le {C : CallF} (hC : LeC C) : ∀ u, (∀ a b c d e f g, Le ((inter_fits_E C u).1 a b c d e f g) (inter_fits_J1 false a b c d e f g)) ∧ (∀ a b c d e f g, Le ((inter_fits_E C u).2 a b c d e f g) (inter_fits_L1 false a b c d e f g))
 | 0 => ⟨fun _ _ _ _ _ _ _ => Le.none _, fun _ _ _ _ _ _ _ => Le.none _⟩
 | u + 1 => by
  obtain ⟨h1, h2⟩ := inter_fits_E_le hC u
  exact ⟨(by intros; refine lt ?_ inter_fits_J1_of; simp only [inter_fits_E]; unfold inter_fits_J1_b; with_reducible repeat' first | intro _ | exact Le.refl _ | exact hC .. | exact h2 .. | exact Le.callV hC | apply Le.bind | apply Le.ite), (by intros; refine lt ?_ inter_fits_L1_of; simp only [inter_fits_E]; unfold inter_fits_L1_b; with_reducible repeat' first | intro _ | exact Le.refl _ | exact hC .. | exact h2 .. | exact Le.callV hC | apply Le.bind | apply Le.ite)⟩
def inter_fits_e (C : CallF) (u : Nat) (args : List PV) (S0 : St) : Rs := match args with
 | [(.agg [s_Args]), (.int .i64 states), (.agg [(.int .i64 t_State), t_Args])] => inter_fits_b false C (inter_fits_E C u).1 S0 s_Args states t_State t_Args
 | _ => none
theorem inter_fits_e_le : LeE n_inter_fits inter_fits_e := by
 intro C hC u args S; unfold inter_fits_e; split
 · obtain ⟨h1, h2⟩ := inter_fits_E_le hC u; refine lt ?_ inter_fits_of; unfold inter_fits_b; with_reducible repeat' first | intro _ | exact Le.refl _ | exact hC .. | exact h1 .. | exact Le.callV hC | apply Le.bind | apply Le.ite
 · exact Le.none _
def judge_Judge_Add_e (C : CallF) (u : Nat) (args : List PV) (S0 : St) : Rs := match args with
 | [(.ref ji 0), (.agg [(.int .i64 b_Fun), (.int .i64 b_Type_State), b_Type_Args])] => judge_Judge_Add_b false C  S0 ji b_Fun b_Type_State b_Type_Args
 | _ => none
theorem judge_Judge_Add_e_le : LeE n_judge_Judge_Add judge_Judge_Add_e := by
 intro C hC u args S; unfold judge_Judge_Add_e; split
 · refine lt ?_ judge_Judge_Add_of; unfold judge_Judge_Add_b; with_reducible repeat' first | intro _ | exact Le.refl _ | exact hC .. | exact Le.callV hC | apply Le.bind | apply Le.ite
 · exact Le.none _
def inter_Text_e (C : CallF) (u : Nat) (args : List PV) (S0 : St) : Rs := match args with
 | [(.agg [(.int .i64 t_State), t_Args])] => inter_Text_b false C  S0 t_State t_Args
 | _ => none
theorem inter_Text_e_le : LeE n_inter_Text inter_Text_e := by
 intro C hC u args S; unfold inter_Text_e; split
 · refine lt ?_ inter_Text_of; unfold inter_Text_b; with_reducible repeat' first | intro _ | exact Le.refl _ | exact hC .. | exact Le.callV hC | apply Le.bind | apply Le.ite
 · exact Le.none _
def judge_Judge_has_E (C : CallF) : Nat → judge_Judge_has_L1_t
 | 0 => fun _ _ _ _ _ _ _ _ _ => none
 | u + 1 => judge_Judge_has_L1_b false C (judge_Judge_has_E C u)
theorem judge_Judge_has_E_le {C : CallF} (hC : LeC C) : ∀ u, (∀ a b c d e f g i j, Le ((judge_Judge_has_E C u) a b c d e f g i j) (judge_Judge_has_L1 false a b c d e f g i j))
 | 0 => fun _ _ _ _ _ _ _ _ _ => Le.none _
 | u + 1 => by
  have h1 := judge_Judge_has_E_le hC u
  exact by intros; refine lt ?_ judge_Judge_has_L1_of; simp only [judge_Judge_has_E]; unfold judge_Judge_has_L1_b; with_reducible repeat' first | intro _ | exact Le.refl _ | exact hC .. | exact h1 .. | exact Le.callV hC | apply Le.bind | apply Le.ite
def judge_Judge_has_e (C : CallF) (u : Nat) (args : List PV) (S0 : St) : Rs := match args with
 | [(.ref ji 0), t, (.agg [(.int .i64 ty_State), ty_Args])] => judge_Judge_has_b false C (judge_Judge_has_E C u) S0 ji t ty_State ty_Args
 | _ => none
theorem judge_Judge_has_e_le : LeE n_judge_Judge_has judge_Judge_has_e := by
 intro C hC u args S; unfold judge_Judge_has_e; split
 · have h1 := judge_Judge_has_E_le hC u; refine lt ?_ judge_Judge_has_of; unfold judge_Judge_has_b; with_reducible repeat' first | intro _ | exact Le.refl _ | exact hC .. | exact h1 .. | exact Le.callV hC | apply Le.bind | apply Le.ite
 · exact Le.none _
def vref02_Depth_E (C : CallF) : Nat → vref02_Depth_L1_t
 | 0 => fun _ _ _ _ _ _ => none
 | u + 1 => vref02_Depth_L1_b false C (vref02_Depth_E C u)
theorem vref02_Depth_E_le {C : CallF} (hC : LeC C) : ∀ u, (∀ a b c d e f, Le ((vref02_Depth_E C u) a b c d e f) (vref02_Depth_L1 false a b c d e f))
 | 0 => fun _ _ _ _ _ _ => Le.none _
 | u + 1 => by
  have h1 := vref02_Depth_E_le hC u
  exact by intros; refine lt ?_ vref02_Depth_L1_of; simp only [vref02_Depth_E]; unfold vref02_Depth_L1_b; with_reducible repeat' first | intro _ | exact Le.refl _ | exact hC .. | exact h1 .. | exact Le.callV hC | apply Le.bind | apply Le.ite
def vref02_Depth_e (C : CallF) (u : Nat) (args : List PV) (S0 : St) : Rs := match args with
 | [(.agg [(.int .i64 t_Kind), (.int .i64 t_N), t_Args])] => vref02_Depth_b false C (vref02_Depth_E C u) S0 t_Kind t_N t_Args
 | _ => none
theorem vref02_Depth_e_le : LeE n_vref02_Depth vref02_Depth_e := by
 intro C hC u args S; unfold vref02_Depth_e; split
 · have h1 := vref02_Depth_E_le hC u; refine lt ?_ vref02_Depth_of; unfold vref02_Depth_b; with_reducible repeat' first | intro _ | exact Le.refl _ | exact hC .. | exact h1 .. | exact Le.callV hC | apply Le.bind | apply Le.ite
 · exact Le.none _
def vref02_Of_E (C : CallF) : Nat → vref02_Of_J1_t × vref02_Of_J2_t × vref02_Of_L1_t
 | 0 => (fun _ _ _ _ _ _ _ _ _ _ => none, fun _ _ _ _ _ _ _ _ _ _ _ _ _ => none, fun _ _ _ _ _ _ _ _ _ _ _ _ => none)
 | u + 1 => (vref02_Of_J1_b false C (vref02_Of_E C u).2.2, vref02_Of_J2_b false C (vref02_Of_E C u).2.2, vref02_Of_L1_b false C (vref02_Of_E C u).2.1)
theorem vref02_Of_E_le {C : CallF} (hC : LeC C) : ∀ u, (∀ a b c d e f g i j k, Le ((vref02_Of_E C u).1 a b c d e f g i j k) (vref02_Of_J1 false a b c d e f g i j k)) ∧ (∀ a b c d e f g i j k l m n, Le ((vref02_Of_E C u).2.1 a b c d e f g i j k l m n) (vref02_Of_J2 false a b c d e f g i j k l m n)) ∧ (∀ a b c d e f g i j k l m, Le ((vref02_Of_E C u).2.2 a b c d e f g i j k l m) (vref02_Of_L1 false a b c d e f g i j k l m))
 | 0 => ⟨fun _ _ _ _ _ _ _ _ _ _ => Le.none _, fun _ _ _ _ _ _ _ _ _ _ _ _ _ => Le.none _, fun _ _ _ _ _ _ _ _ _ _ _ _ => Le.none _⟩
 | u + 1 => by
  obtain ⟨h1, h2, h3⟩ := vref02_Of_E_le hC u
  exact ⟨(by intros; refine lt ?_ vref02_Of_J1_of; simp only [vref02_Of_E]; unfold vref02_Of_J1_b; with_reducible repeat' first | intro _ | exact Le.refl _ | exact hC .. | exact h3 .. | exact Le.callV hC | apply Le.bind | apply Le.ite), (by intros; refine lt ?_ vref02_Of_J2_of; simp only [vref02_Of_E]; unfold vref02_Of_J2_b; with_reducible repeat' first | intro _ | exact Le.refl _ | exact hC .. | exact h3 .. | exact Le.callV hC | apply Le.bind | apply Le.ite), (by intros; refine lt ?_ vref02_Of_L1_of; simp only [vref02_Of_E]; unfold vref02_Of_L1_b; with_reducible repeat' first | intro _ | exact Le.refl _ | exact hC .. | exact h2 .. | exact Le.callV hC | apply Le.bind | apply Le.ite)⟩
def vref02_Of_e (C : CallF) (u : Nat) (args : List PV) (S0 : St) : Rs := match args with
 | [(.agg [p_Syms, p_Funs, p_Params]), (.agg [(.int .i64 t_Kind), (.int .i64 t_N), t_Args])] => vref02_Of_b false C (vref02_Of_E C u).1 S0 p_Syms p_Funs p_Params t_Kind t_N t_Args
 | _ => none
theorem vref02_Of_e_le : LeE n_vref02_Of vref02_Of_e := by
 intro C hC u args S; unfold vref02_Of_e; split
 · obtain ⟨h1, h2, h3⟩ := vref02_Of_E_le hC u; refine lt ?_ vref02_Of_of; unfold vref02_Of_b; with_reducible repeat' first | intro _ | exact Le.refl _ | exact hC .. | exact h1 .. | exact Le.callV hC | apply Le.bind | apply Le.ite
 · exact Le.none _
def vref06_Ranks_E (C : CallF) : Nat → vref06_Ranks_J1_t × vref06_Ranks_L1_t
 | 0 => (fun _ _ _ _ _ _ => none, fun _ _ _ _ _ => none)
 | u + 1 => (vref06_Ranks_J1_b false C (vref06_Ranks_E C u).2, vref06_Ranks_L1_b false C (vref06_Ranks_E C u).1)
theorem vref06_Ranks_E_le {C : CallF} (hC : LeC C) : ∀ u, (∀ a b c d e f, Le ((vref06_Ranks_E C u).1 a b c d e f) (vref06_Ranks_J1 false a b c d e f)) ∧ (∀ a b c d e, Le ((vref06_Ranks_E C u).2 a b c d e) (vref06_Ranks_L1 false a b c d e))
 | 0 => ⟨fun _ _ _ _ _ _ => Le.none _, fun _ _ _ _ _ => Le.none _⟩
 | u + 1 => by
  obtain ⟨h1, h2⟩ := vref06_Ranks_E_le hC u
  exact ⟨(by intros; refine lt ?_ vref06_Ranks_J1_of; simp only [vref06_Ranks_E]; unfold vref06_Ranks_J1_b; with_reducible repeat' first | intro _ | exact Le.refl _ | exact hC .. | exact h2 .. | exact Le.callV hC | apply Le.bind | apply Le.ite), (by intros; refine lt ?_ vref06_Ranks_L1_of; simp only [vref06_Ranks_E]; unfold vref06_Ranks_L1_b; with_reducible repeat' first | intro _ | exact Le.refl _ | exact hC .. | exact h1 .. | exact Le.callV hC | apply Le.bind | apply Le.ite)⟩
def vref06_Ranks_e (C : CallF) (u : Nat) (args : List PV) (S0 : St) : Rs := match args with
 | [ranks] => vref06_Ranks_b false C (vref06_Ranks_E C u).2 S0 ranks
 | _ => none
theorem vref06_Ranks_e_le : LeE n_vref06_Ranks vref06_Ranks_e := by
 intro C hC u args S; unfold vref06_Ranks_e; split
 · obtain ⟨h1, h2⟩ := vref06_Ranks_E_le hC u; refine lt ?_ vref06_Ranks_of; unfold vref06_Ranks_b; with_reducible repeat' first | intro _ | exact Le.refl _ | exact hC .. | exact h2 .. | exact Le.callV hC | apply Le.bind | apply Le.ite
 · exact Le.none _
def vref09_alternatives_E (C : CallF) : Nat → vref09_alternatives_J1_t × vref09_alternatives_L1_t
 | 0 => (fun _ _ _ _ _ _ _ _ => none, fun _ _ _ _ _ _ _ => none)
 | u + 1 => (vref09_alternatives_J1_b false C (vref09_alternatives_E C u).2, vref09_alternatives_L1_b false C (vref09_alternatives_E C u).1)
theorem vref09_alternatives_E_le {C : CallF} (hC : LeC C) : ∀ u, (∀ a b c d e f g i, Le ((vref09_alternatives_E C u).1 a b c d e f g i) (vref09_alternatives_J1 false a b c d e f g i)) ∧ (∀ a b c d e f g, Le ((vref09_alternatives_E C u).2 a b c d e f g) (vref09_alternatives_L1 false a b c d e f g))
 | 0 => ⟨fun _ _ _ _ _ _ _ _ => Le.none _, fun _ _ _ _ _ _ _ => Le.none _⟩
 | u + 1 => by
  obtain ⟨h1, h2⟩ := vref09_alternatives_E_le hC u
  exact ⟨(by intros; refine lt ?_ vref09_alternatives_J1_of; simp only [vref09_alternatives_E]; unfold vref09_alternatives_J1_b; with_reducible repeat' first | intro _ | exact Le.refl _ | exact hC .. | exact h2 .. | exact Le.callV hC | apply Le.bind | apply Le.ite), (by intros; refine lt ?_ vref09_alternatives_L1_of; simp only [vref09_alternatives_E]; unfold vref09_alternatives_L1_b; with_reducible repeat' first | intro _ | exact Le.refl _ | exact hC .. | exact h1 .. | exact Le.callV hC | apply Le.bind | apply Le.ite)⟩
def vref09_alternatives_e (C : CallF) (u : Nat) (args : List PV) (S0 : St) : Rs := match args with
 | [l, (.int .i64 rank), (.int .i64 states)] => vref09_alternatives_b false C (vref09_alternatives_E C u).2 S0 l rank states
 | _ => none
theorem vref09_alternatives_e_le : LeE n_vref09_alternatives vref09_alternatives_e := by
 intro C hC u args S; unfold vref09_alternatives_e; split
 · obtain ⟨h1, h2⟩ := vref09_alternatives_E_le hC u; refine lt ?_ vref09_alternatives_of; unfold vref09_alternatives_b; with_reducible repeat' first | intro _ | exact Le.refl _ | exact hC .. | exact h2 .. | exact Le.callV hC | apply Le.bind | apply Le.ite
 · exact Le.none _
def vref09_Compare_E (C : CallF) : Nat → vref09_Compare_J1_t × vref09_Compare_L1_t
 | 0 => (fun _ _ _ _ _ _ => none, fun _ _ _ _ _ => none)
 | u + 1 => (vref09_Compare_J1_b false C (vref09_Compare_E C u).2, vref09_Compare_L1_b false C (vref09_Compare_E C u).1)
theorem vref09_Compare_E_le {C : CallF} (hC : LeC C) : ∀ u, (∀ a b c d e f, Le ((vref09_Compare_E C u).1 a b c d e f) (vref09_Compare_J1 false a b c d e f)) ∧ (∀ a b c d e, Le ((vref09_Compare_E C u).2 a b c d e) (vref09_Compare_L1 false a b c d e))
 | 0 => ⟨fun _ _ _ _ _ _ => Le.none _, fun _ _ _ _ _ => Le.none _⟩
 | u + 1 => by
  obtain ⟨h1, h2⟩ := vref09_Compare_E_le hC u
  exact ⟨(by intros; refine lt ?_ vref09_Compare_J1_of; simp only [vref09_Compare_E]; unfold vref09_Compare_J1_b; with_reducible repeat' first | intro _ | exact Le.refl _ | exact hC .. | exact h2 .. | exact Le.callV hC | apply Le.bind | apply Le.ite), (by intros; refine lt ?_ vref09_Compare_L1_of; simp only [vref09_Compare_E]; unfold vref09_Compare_L1_b; with_reducible repeat' first | intro _ | exact Le.refl _ | exact hC .. | exact h1 .. | exact Le.callV hC | apply Le.bind | apply Le.ite)⟩
def vref09_Compare_e (C : CallF) (u : Nat) (args : List PV) (S0 : St) : Rs := match args with
 | [a, b] => vref09_Compare_b false C (vref09_Compare_E C u).2 S0 a b
 | _ => none
theorem vref09_Compare_e_le : LeE n_vref09_Compare vref09_Compare_e := by
 intro C hC u args S; unfold vref09_Compare_e; split
 · obtain ⟨h1, h2⟩ := vref09_Compare_E_le hC u; refine lt ?_ vref09_Compare_of; unfold vref09_Compare_b; with_reducible repeat' first | intro _ | exact Le.refl _ | exact hC .. | exact h2 .. | exact Le.callV hC | apply Le.bind | apply Le.ite
 · exact Le.none _
def inter_Size_e (C : CallF) (u : Nat) (args : List PV) (S0 : St) : Rs := match args with
 | [(.agg [(.int .i64 t_State), t_Args])] => inter_Size_b false C  S0 t_State t_Args
 | _ => none
theorem inter_Size_e_le : LeE n_inter_Size inter_Size_e := by
 intro C hC u args S; unfold inter_Size_e; split
 · refine lt ?_ inter_Size_of; unfold inter_Size_b; with_reducible repeat' first | intro _ | exact Le.refl _ | exact hC .. | exact Le.callV hC | apply Le.bind | apply Le.ite
 · exact Le.none _
def inter_Strong_1_e (C : CallF) (u : Nat) (args : List PV) (S0 : St) : Rs := match args with
 | [(.agg [(.int .i64 y_State), y_Args]), y] => inter_Strong_1_b false C  S0 y_State y_Args y
 | _ => none
theorem inter_Strong_1_e_le : LeE n_inter_Strong_1 inter_Strong_1_e := by
 intro C hC u args S; unfold inter_Strong_1_e; split
 · refine lt ?_ inter_Strong_1_of; unfold inter_Strong_1_b; with_reducible repeat' first | intro _ | exact Le.refl _ | exact hC .. | exact Le.callV hC | apply Le.bind | apply Le.ite
 · exact Le.none _
def term_measure_E (C : CallF) : Nat → term_measure_L1_t
 | 0 => fun _ _ _ _ _ _ _ _ => none
 | u + 1 => term_measure_L1_b false C (term_measure_E C u)
theorem term_measure_E_le {C : CallF} (hC : LeC C) : ∀ u, (∀ a b c d e f g i, Le ((term_measure_E C u) a b c d e f g i) (term_measure_L1 false a b c d e f g i))
 | 0 => fun _ _ _ _ _ _ _ _ => Le.none _
 | u + 1 => by
  have h1 := term_measure_E_le hC u
  exact by intros; refine lt ?_ term_measure_L1_of; simp only [term_measure_E]; unfold term_measure_L1_b; with_reducible repeat' first | intro _ | exact Le.refl _ | exact hC .. | exact h1 .. | exact Le.callV hC | apply Le.bind | apply Le.ite
def term_measure_e (C : CallF) (u : Nat) (args : List PV) (S0 : St) : Rs := match args with
 | [(.agg [(.int .i64 t_Kind), (.int .i64 t_N), t_Args]), left] => term_measure_b false C (term_measure_E C u) S0 t_Kind t_N t_Args left
 | _ => none
theorem term_measure_e_le : LeE n_term_measure term_measure_e := by
 intro C hC u args S; unfold term_measure_e; split
 · have h1 := term_measure_E_le hC u; refine lt ?_ term_measure_of; unfold term_measure_b; with_reducible repeat' first | intro _ | exact Le.refl _ | exact hC .. | exact h1 .. | exact Le.callV hC | apply Le.bind | apply Le.ite
 · exact Le.none _
end
end Go.Proofs.YtjdknnlhhenpnaaGreatDoor
namespace Go.Proofs.YtjdknnlhhenpnaaGreatDoor
open Go Go.Abs
noncomputable section
def slices_IndexFunc_of_api_Type_E (C : CallF) : Nat → slices_IndexFunc_of_api_Type_L1_t
 | 0 => fun _ _ _ _ _ _ => none
 | u + 1 => slices_IndexFunc_of_api_Type_L1_b false C (slices_IndexFunc_of_api_Type_E C u)
theorem slices_IndexFunc_of_api_Type_E_le {C : CallF} (hC : LeC C) : ∀ u, (∀ a b c d e f, Le ((slices_IndexFunc_of_api_Type_E C u) a b c d e f) (slices_IndexFunc_of_api_Type_L1 false a b c d e f))
 | 0 => fun _ _ _ _ _ _ => Le.none _
 | u + 1 => by
  have h1 := slices_IndexFunc_of_api_Type_E_le hC u
  exact by intros; refine lt ?_ slices_IndexFunc_of_api_Type_L1_of; simp only [slices_IndexFunc_of_api_Type_E]; unfold slices_IndexFunc_of_api_Type_L1_b; with_reducible repeat' first | intro _ | exact Le.refl _ | exact hC .. | exact h1 .. | exact Le.callV hC | apply Le.bind | apply Le.ite
def slices_IndexFunc_of_api_Type_e (C : CallF) (u : Nat) (args : List PV) (S0 : St) : Rs := match args with
 | [s, f] => slices_IndexFunc_of_api_Type_b false C (slices_IndexFunc_of_api_Type_E C u) S0 s f
 | _ => none
theorem slices_IndexFunc_of_api_Type_e_le : LeE n_slices_IndexFunc_of_api_Type slices_IndexFunc_of_api_Type_e := by
 intro C hC u args S; unfold slices_IndexFunc_of_api_Type_e; split
 · have h1 := slices_IndexFunc_of_api_Type_E_le hC u; refine lt ?_ slices_IndexFunc_of_api_Type_of; unfold slices_IndexFunc_of_api_Type_b; with_reducible repeat' first | intro _ | exact Le.refl _ | exact hC .. | exact h1 .. | exact Le.callV hC | apply Le.bind | apply Le.ite
 · exact Le.none _
def slices_CompareFunc_of_Lapi_Type_E (C : CallF) : Nat → slices_CompareFunc_of_Lapi_Type_L1_t
 | 0 => fun _ _ _ _ _ _ _ => none
 | u + 1 => slices_CompareFunc_of_Lapi_Type_L1_b false C (slices_CompareFunc_of_Lapi_Type_E C u)
theorem slices_CompareFunc_of_Lapi_Type_E_le {C : CallF} (hC : LeC C) : ∀ u, (∀ a b c d e f g, Le ((slices_CompareFunc_of_Lapi_Type_E C u) a b c d e f g) (slices_CompareFunc_of_Lapi_Type_L1 false a b c d e f g))
 | 0 => fun _ _ _ _ _ _ _ => Le.none _
 | u + 1 => by
  have h1 := slices_CompareFunc_of_Lapi_Type_E_le hC u
  exact by intros; refine lt ?_ slices_CompareFunc_of_Lapi_Type_L1_of; simp only [slices_CompareFunc_of_Lapi_Type_E]; unfold slices_CompareFunc_of_Lapi_Type_L1_b; with_reducible repeat' first | intro _ | exact Le.refl _ | exact hC .. | exact h1 .. | exact Le.callV hC | apply Le.bind | apply Le.ite
def slices_CompareFunc_of_Lapi_Type_e (C : CallF) (u : Nat) (args : List PV) (S0 : St) : Rs := match args with
 | [s1, s2, cmp] => slices_CompareFunc_of_Lapi_Type_b false C (slices_CompareFunc_of_Lapi_Type_E C u) S0 s1 s2 cmp
 | _ => none
theorem slices_CompareFunc_of_Lapi_Type_e_le : LeE n_slices_CompareFunc_of_Lapi_Type slices_CompareFunc_of_Lapi_Type_e := by
 intro C hC u args S; unfold slices_CompareFunc_of_Lapi_Type_e; split
 · have h1 := slices_CompareFunc_of_Lapi_Type_E_le hC u; refine lt ?_ slices_CompareFunc_of_Lapi_Type_of; unfold slices_CompareFunc_of_Lapi_Type_b; with_reducible repeat' first | intro _ | exact Le.refl _ | exact hC .. | exact h1 .. | exact Le.callV hC | apply Le.bind | apply Le.ite
 · exact Le.none _
def inter_Order_1_e (C : CallF) (u : Nat) (args : List PV) (S0 : St) : Rs := match args with
 | [x, y] => inter_Order_1_b false C  S0 x y
 | _ => none
theorem inter_Order_1_e_le : LeE n_inter_Order_1 inter_Order_1_e := by
 intro C hC u args S; unfold inter_Order_1_e; split
 · refine lt ?_ inter_Order_1_of; unfold inter_Order_1_b; with_reducible repeat' first | intro _ | exact Le.refl _ | exact hC .. | exact Le.callV hC | apply Le.bind | apply Le.ite
 · exact Le.none _
def slices_CompareFunc_of_api_Type_E (C : CallF) : Nat → slices_CompareFunc_of_api_Type_L1_t
 | 0 => fun _ _ _ _ _ _ _ => none
 | u + 1 => slices_CompareFunc_of_api_Type_L1_b false C (slices_CompareFunc_of_api_Type_E C u)
theorem slices_CompareFunc_of_api_Type_E_le {C : CallF} (hC : LeC C) : ∀ u, (∀ a b c d e f g, Le ((slices_CompareFunc_of_api_Type_E C u) a b c d e f g) (slices_CompareFunc_of_api_Type_L1 false a b c d e f g))
 | 0 => fun _ _ _ _ _ _ _ => Le.none _
 | u + 1 => by
  have h1 := slices_CompareFunc_of_api_Type_E_le hC u
  exact by intros; refine lt ?_ slices_CompareFunc_of_api_Type_L1_of; simp only [slices_CompareFunc_of_api_Type_E]; unfold slices_CompareFunc_of_api_Type_L1_b; with_reducible repeat' first | intro _ | exact Le.refl _ | exact hC .. | exact h1 .. | exact Le.callV hC | apply Le.bind | apply Le.ite
def slices_CompareFunc_of_api_Type_e (C : CallF) (u : Nat) (args : List PV) (S0 : St) : Rs := match args with
 | [s1, s2, cmp] => slices_CompareFunc_of_api_Type_b false C (slices_CompareFunc_of_api_Type_E C u) S0 s1 s2 cmp
 | _ => none
theorem slices_CompareFunc_of_api_Type_e_le : LeE n_slices_CompareFunc_of_api_Type slices_CompareFunc_of_api_Type_e := by
 intro C hC u args S; unfold slices_CompareFunc_of_api_Type_e; split
 · have h1 := slices_CompareFunc_of_api_Type_E_le hC u; refine lt ?_ slices_CompareFunc_of_api_Type_of; unfold slices_CompareFunc_of_api_Type_b; with_reducible repeat' first | intro _ | exact Le.refl _ | exact hC .. | exact h1 .. | exact Le.callV hC | apply Le.bind | apply Le.ite
 · exact Le.none _
def vref03_word_E (C : CallF) : Nat → vref03_word_J1_t × vref03_word_L1_t
 | 0 => (fun _ _ _ _ _ => none, fun _ _ _ _ => none)
 | u + 1 => (vref03_word_J1_b false C (vref03_word_E C u).2, vref03_word_L1_b false C (vref03_word_E C u).1)
theorem vref03_word_E_le {C : CallF} (hC : LeC C) : ∀ u, (∀ a b c d e, Le ((vref03_word_E C u).1 a b c d e) (vref03_word_J1 false a b c d e)) ∧ (∀ a b c d, Le ((vref03_word_E C u).2 a b c d) (vref03_word_L1 false a b c d))
 | 0 => ⟨fun _ _ _ _ _ => Le.none _, fun _ _ _ _ => Le.none _⟩
 | u + 1 => by
  obtain ⟨h1, h2⟩ := vref03_word_E_le hC u
  exact ⟨(by intros; refine lt ?_ vref03_word_J1_of; simp only [vref03_word_E]; unfold vref03_word_J1_b; with_reducible repeat' first | intro _ | exact Le.refl _ | exact hC .. | exact h2 .. | exact Le.callV hC | apply Le.bind | apply Le.ite), (by intros; refine lt ?_ vref03_word_L1_of; simp only [vref03_word_E]; unfold vref03_word_L1_b; with_reducible repeat' first | intro _ | exact Le.refl _ | exact hC .. | exact h1 .. | exact Le.callV hC | apply Le.bind | apply Le.ite)⟩
def vref03_word_e (C : CallF) (u : Nat) (args : List PV) (S0 : St) : Rs := match args with
 | [(.str text), (.int .i64 at_)] => vref03_word_b false C (vref03_word_E C u).2 S0 text at_
 | _ => none
theorem vref03_word_e_le : LeE n_vref03_word vref03_word_e := by
 intro C hC u args S; unfold vref03_word_e; split
 · obtain ⟨h1, h2⟩ := vref03_word_E_le hC u; refine lt ?_ vref03_word_of; unfold vref03_word_b; with_reducible repeat' first | intro _ | exact Le.refl _ | exact hC .. | exact h2 .. | exact Le.callV hC | apply Le.bind | apply Le.ite
 · exact Le.none _
def vref02_Name_E (C : CallF) : Nat → vref02_Name_J1_t × vref02_Name_J2_t × vref02_Name_L1_t
 | 0 => (fun _ _ _ _ => none, fun _ _ _ _ _ => none, fun _ _ _ _ => none)
 | u + 1 => (vref02_Name_J1_b false C (vref02_Name_E C u).2.2, vref02_Name_J2_b false C (vref02_Name_E C u).2.2, vref02_Name_L1_b false C (vref02_Name_E C u).2.1)
theorem vref02_Name_E_le {C : CallF} (hC : LeC C) : ∀ u, (∀ a b c d, Le ((vref02_Name_E C u).1 a b c d) (vref02_Name_J1 false a b c d)) ∧ (∀ a b c d e, Le ((vref02_Name_E C u).2.1 a b c d e) (vref02_Name_J2 false a b c d e)) ∧ (∀ a b c d, Le ((vref02_Name_E C u).2.2 a b c d) (vref02_Name_L1 false a b c d))
 | 0 => ⟨fun _ _ _ _ => Le.none _, fun _ _ _ _ _ => Le.none _, fun _ _ _ _ => Le.none _⟩
 | u + 1 => by
  obtain ⟨h1, h2, h3⟩ := vref02_Name_E_le hC u
  exact ⟨(by intros; refine lt ?_ vref02_Name_J1_of; simp only [vref02_Name_E]; unfold vref02_Name_J1_b; with_reducible repeat' first | intro _ | exact Le.refl _ | exact hC .. | exact h3 .. | exact Le.callV hC | apply Le.bind | apply Le.ite), (by intros; refine lt ?_ vref02_Name_J2_of; simp only [vref02_Name_E]; unfold vref02_Name_J2_b; with_reducible repeat' first | intro _ | exact Le.refl _ | exact hC .. | exact h3 .. | exact Le.callV hC | apply Le.bind | apply Le.ite), (by intros; refine lt ?_ vref02_Name_L1_of; simp only [vref02_Name_E]; unfold vref02_Name_L1_b; with_reducible repeat' first | intro _ | exact Le.refl _ | exact hC .. | exact h2 .. | exact Le.callV hC | apply Le.bind | apply Le.ite)⟩
def vref02_Name_e (C : CallF) (u : Nat) (args : List PV) (S0 : St) : Rs := match args with
 | [(.str s)] => vref02_Name_b false C (vref02_Name_E C u).1 S0 s
 | _ => none
theorem vref02_Name_e_le : LeE n_vref02_Name vref02_Name_e := by
 intro C hC u args S; unfold vref02_Name_e; split
 · obtain ⟨h1, h2, h3⟩ := vref02_Name_E_le hC u; refine lt ?_ vref02_Name_of; unfold vref02_Name_b; with_reducible repeat' first | intro _ | exact Le.refl _ | exact hC .. | exact h1 .. | exact Le.callV hC | apply Le.bind | apply Le.ite
 · exact Le.none _
def vref03_number_E (C : CallF) : Nat → vref03_number_J1_t × vref03_number_L1_t
 | 0 => (fun _ _ _ _ _ _ _ => none, fun _ _ _ _ _ _ => none)
 | u + 1 => (vref03_number_J1_b false C (vref03_number_E C u).2, vref03_number_L1_b false C (vref03_number_E C u).1)
theorem vref03_number_E_le {C : CallF} (hC : LeC C) : ∀ u, (∀ a b c d e f g, Le ((vref03_number_E C u).1 a b c d e f g) (vref03_number_J1 false a b c d e f g)) ∧ (∀ a b c d e f, Le ((vref03_number_E C u).2 a b c d e f) (vref03_number_L1 false a b c d e f))
 | 0 => ⟨fun _ _ _ _ _ _ _ => Le.none _, fun _ _ _ _ _ _ => Le.none _⟩
 | u + 1 => by
  obtain ⟨h1, h2⟩ := vref03_number_E_le hC u
  exact ⟨(by intros; refine lt ?_ vref03_number_J1_of; simp only [vref03_number_E]; unfold vref03_number_J1_b; with_reducible repeat' first | intro _ | exact Le.refl _ | exact hC .. | exact h2 .. | exact Le.callV hC | apply Le.bind | apply Le.ite), (by intros; refine lt ?_ vref03_number_L1_of; simp only [vref03_number_E]; unfold vref03_number_L1_b; with_reducible repeat' first | intro _ | exact Le.refl _ | exact hC .. | exact h1 .. | exact Le.callV hC | apply Le.bind | apply Le.ite)⟩
def vref03_number_e (C : CallF) (u : Nat) (args : List PV) (S0 : St) : Rs := match args with
 | [(.str text), (.int .i64 at_)] => vref03_number_b false C (vref03_number_E C u).2 S0 text at_
 | _ => none
theorem vref03_number_e_le : LeE n_vref03_number vref03_number_e := by
 intro C hC u args S; unfold vref03_number_e; split
 · obtain ⟨h1, h2⟩ := vref03_number_E_le hC u; refine lt ?_ vref03_number_of; unfold vref03_number_b; with_reducible repeat' first | intro _ | exact Le.refl _ | exact hC .. | exact h2 .. | exact Le.callV hC | apply Le.bind | apply Le.ite
 · exact Le.none _
def vref01_Parse_E (C : CallF) : Nat → vref01_Parse_J1_t × vref01_Parse_L1_t
 | 0 => (fun _ _ _ _ _ _ _ _ _ _ _ _ => none, fun _ _ _ _ _ _ _ _ _ => none)
 | u + 1 => (vref01_Parse_J1_b false C (vref01_Parse_E C u).2, vref01_Parse_L1_b false C (vref01_Parse_E C u).1 (vref01_Parse_E C u).2)
theorem vref01_Parse_E_le {C : CallF} (hC : LeC C) : ∀ u, (∀ a b c d e f g i j k l m, Le ((vref01_Parse_E C u).1 a b c d e f g i j k l m) (vref01_Parse_J1 false a b c d e f g i j k l m)) ∧ (∀ a b c d e f g i j, Le ((vref01_Parse_E C u).2 a b c d e f g i j) (vref01_Parse_L1 false a b c d e f g i j))
 | 0 => ⟨fun _ _ _ _ _ _ _ _ _ _ _ _ => Le.none _, fun _ _ _ _ _ _ _ _ _ => Le.none _⟩
 | u + 1 => by
  obtain ⟨h1, h2⟩ := vref01_Parse_E_le hC u
  exact ⟨(by intros; refine lt ?_ vref01_Parse_J1_of; simp only [vref01_Parse_E]; unfold vref01_Parse_J1_b; with_reducible repeat' first | intro _ | exact Le.refl _ | exact hC .. | exact h2 .. | exact Le.callV hC | apply Le.bind | apply Le.ite), (by intros; refine lt ?_ vref01_Parse_L1_of; simp only [vref01_Parse_E]; unfold vref01_Parse_L1_b; with_reducible repeat' first | intro _ | exact Le.refl _ | exact hC .. | exact h1 .. | exact h2 .. | exact Le.callV hC | apply Le.bind | apply Le.ite)⟩
def vref01_Parse_e (C : CallF) (u : Nat) (args : List PV) (S0 : St) : Rs := match args with
 | [(.str text), (.int .i64 at_)] => vref01_Parse_b false C (vref01_Parse_E C u).2 S0 text at_
 | _ => none
theorem vref01_Parse_e_le : LeE n_vref01_Parse vref01_Parse_e := by
 intro C hC u args S; unfold vref01_Parse_e; split
 · obtain ⟨h1, h2⟩ := vref01_Parse_E_le hC u; refine lt ?_ vref01_Parse_of; unfold vref01_Parse_b; with_reducible repeat' first | intro _ | exact Le.refl _ | exact hC .. | exact h2 .. | exact Le.callV hC | apply Le.bind | apply Le.ite
 · exact Le.none _
def vref03_parseHead_E (C : CallF) : Nat → vref03_parseHead_J1_t
 | 0 => fun _ _ _ _ _ _ _ _ => none
 | u + 1 => vref03_parseHead_J1_b false C
theorem vref03_parseHead_E_le {C : CallF} (hC : LeC C) : ∀ u, (∀ a b c d e f g i, Le ((vref03_parseHead_E C u) a b c d e f g i) (vref03_parseHead_J1 false a b c d e f g i))
 | 0 => fun _ _ _ _ _ _ _ _ => Le.none _
 | u + 1 => by
  have h1 := vref03_parseHead_E_le hC u
  exact by intros; refine lt ?_ vref03_parseHead_J1_of; simp only [vref03_parseHead_E]; unfold vref03_parseHead_J1_b; with_reducible repeat' first | intro _ | exact Le.refl _ | exact hC .. | exact Le.callV hC | apply Le.bind | apply Le.ite
def vref03_parseHead_e (C : CallF) (u : Nat) (args : List PV) (S0 : St) : Rs := match args with
 | [(.agg [s_Syms, s_Funs]), (.str text), (.int .i64 at_)] => vref03_parseHead_b false C (vref03_parseHead_E C u) S0 s_Syms s_Funs text at_
 | _ => none
theorem vref03_parseHead_e_le : LeE n_vref03_parseHead vref03_parseHead_e := by
 intro C hC u args S; unfold vref03_parseHead_e; split
 · have h1 := vref03_parseHead_E_le hC u; refine lt ?_ vref03_parseHead_of; unfold vref03_parseHead_b; with_reducible repeat' first | intro _ | exact Le.refl _ | exact hC .. | exact h1 .. | exact Le.callV hC | apply Le.bind | apply Le.ite
 · exact Le.none _
def vref02_Symbols_E (C : CallF) : Nat → vref02_Symbols_J1_t × vref02_Symbols_L2_t × vref02_Symbols_L1_t
 | 0 => (fun _ _ _ _ _ _ _ _ => none, fun _ _ _ _ _ _ _ _ _ _ _ => none, fun _ _ _ _ _ => none)
 | u + 1 => (vref02_Symbols_J1_b false C (vref02_Symbols_E C u).2.1, vref02_Symbols_L2_b false C (vref02_Symbols_E C u).2.1 (vref02_Symbols_E C u).2.2, vref02_Symbols_L1_b false C (vref02_Symbols_E C u).1)
theorem vref02_Symbols_E_le {C : CallF} (hC : LeC C) : ∀ u, (∀ a b c d e f g i, Le ((vref02_Symbols_E C u).1 a b c d e f g i) (vref02_Symbols_J1 false a b c d e f g i)) ∧ (∀ a b c d e f g i j k l, Le ((vref02_Symbols_E C u).2.1 a b c d e f g i j k l) (vref02_Symbols_L2 false a b c d e f g i j k l)) ∧ (∀ a b c d e, Le ((vref02_Symbols_E C u).2.2 a b c d e) (vref02_Symbols_L1 false a b c d e))
 | 0 => ⟨fun _ _ _ _ _ _ _ _ => Le.none _, fun _ _ _ _ _ _ _ _ _ _ _ => Le.none _, fun _ _ _ _ _ => Le.none _⟩
 | u + 1 => by
  obtain ⟨h1, h2, h3⟩ := vref02_Symbols_E_le hC u
  exact ⟨(by intros; refine lt ?_ vref02_Symbols_J1_of; simp only [vref02_Symbols_E]; unfold vref02_Symbols_J1_b; with_reducible repeat' first | intro _ | exact Le.refl _ | exact hC .. | exact h2 .. | exact Le.callV hC | apply Le.bind | apply Le.ite), (by intros; refine lt ?_ vref02_Symbols_L2_of; simp only [vref02_Symbols_E]; unfold vref02_Symbols_L2_b; with_reducible repeat' first | intro _ | exact Le.refl _ | exact hC .. | exact h2 .. | exact h3 .. | exact Le.callV hC | apply Le.bind | apply Le.ite), (by intros; refine lt ?_ vref02_Symbols_L1_of; simp only [vref02_Symbols_E]; unfold vref02_Symbols_L1_b; with_reducible repeat' first | intro _ | exact Le.refl _ | exact hC .. | exact h1 .. | exact Le.callV hC | apply Le.bind | apply Le.ite)⟩
def vref02_Symbols_e (C : CallF) (u : Nat) (args : List PV) (S0 : St) : Rs := match args with
 | [l] => vref02_Symbols_b false C (vref02_Symbols_E C u).2.2 S0 l
 | _ => none
theorem vref02_Symbols_e_le : LeE n_vref02_Symbols vref02_Symbols_e := by
 intro C hC u args S; unfold vref02_Symbols_e; split
 · obtain ⟨h1, h2, h3⟩ := vref02_Symbols_E_le hC u; refine lt ?_ vref02_Symbols_of; unfold vref02_Symbols_b; with_reducible repeat' first | intro _ | exact Le.refl _ | exact hC .. | exact h3 .. | exact Le.callV hC | apply Le.bind | apply Le.ite
 · exact Le.none _
def vref03_Place_E (C : CallF) : Nat → vref03_Place_L1_t
 | 0 => fun _ _ _ _ _ _ _ _ _ _ _ _ => none
 | u + 1 => vref03_Place_L1_b false C (vref03_Place_E C u)
theorem vref03_Place_E_le {C : CallF} (hC : LeC C) : ∀ u, (∀ a b c d e f g i j k l m, Le ((vref03_Place_E C u) a b c d e f g i j k l m) (vref03_Place_L1 false a b c d e f g i j k l m))
 | 0 => fun _ _ _ _ _ _ _ _ _ _ _ _ => Le.none _
 | u + 1 => by
  have h1 := vref03_Place_E_le hC u
  exact by intros; refine lt ?_ vref03_Place_L1_of; simp only [vref03_Place_E]; unfold vref03_Place_L1_b; with_reducible repeat' first | intro _ | exact Le.refl _ | exact hC .. | exact h1 .. | exact Le.callV hC | apply Le.bind | apply Le.ite
def vref03_Place_e (C : CallF) (u : Nat) (args : List PV) (S0 : St) : Rs := match args with
 | [(.agg [s_Syms, s_Funs]), (.int .i64 fun_)] => vref03_Place_b false C (vref03_Place_E C u) S0 s_Syms s_Funs fun_
 | _ => none
theorem vref03_Place_e_le : LeE n_vref03_Place vref03_Place_e := by
 intro C hC u args S; unfold vref03_Place_e; split
 · have h1 := vref03_Place_E_le hC u; refine lt ?_ vref03_Place_of; unfold vref03_Place_b; with_reducible repeat' first | intro _ | exact Le.refl _ | exact hC .. | exact h1 .. | exact Le.callV hC | apply Le.bind | apply Le.ite
 · exact Le.none _
def scheme_Check_E (C : CallF) : Nat → scheme_Check_J1_t × scheme_Check_J2_t × scheme_Check_L1_t × scheme_Check_J3_t × scheme_Check_J4_t × scheme_Check_L2_t
 | 0 => (fun _ _ _ _ _ => none, fun _ _ _ _ _ _ _ _ _ _ _ _ _ => none, fun _ _ _ _ _ _ _ => none, fun _ _ _ _ _ _ _ _ _ _ _ _ => none, fun _ _ _ _ _ _ _ => none, fun _ _ _ _ _ _ => none)
 | u + 1 => (scheme_Check_J1_b false C (scheme_Check_E C u).2.2.1, scheme_Check_J2_b false C (scheme_Check_E C u).2.2.1, scheme_Check_L1_b false C (scheme_Check_E C u).2.1 (scheme_Check_E C u).2.2.2.2.2, scheme_Check_J3_b false C (scheme_Check_E C u).2.2.2.2.1, scheme_Check_J4_b false C (scheme_Check_E C u).2.2.2.2.2, scheme_Check_L2_b false C (scheme_Check_E C u).2.2.2.1)
theorem scheme_Check_E_le {C : CallF} (hC : LeC C) : ∀ u, (∀ a b c d e, Le ((scheme_Check_E C u).1 a b c d e) (scheme_Check_J1 false a b c d e)) ∧ (∀ a b c d e f g i j k l m n, Le ((scheme_Check_E C u).2.1 a b c d e f g i j k l m n) (scheme_Check_J2 false a b c d e f g i j k l m n)) ∧ (∀ a b c d e f g, Le ((scheme_Check_E C u).2.2.1 a b c d e f g) (scheme_Check_L1 false a b c d e f g)) ∧ (∀ a b c d e f g i j k l m, Le ((scheme_Check_E C u).2.2.2.1 a b c d e f g i j k l m) (scheme_Check_J3 false a b c d e f g i j k l m)) ∧ (∀ a b c d e f g, Le ((scheme_Check_E C u).2.2.2.2.1 a b c d e f g) (scheme_Check_J4 false a b c d e f g)) ∧ (∀ a b c d e f, Le ((scheme_Check_E C u).2.2.2.2.2 a b c d e f) (scheme_Check_L2 false a b c d e f))
 | 0 => ⟨fun _ _ _ _ _ => Le.none _, fun _ _ _ _ _ _ _ _ _ _ _ _ _ => Le.none _, fun _ _ _ _ _ _ _ => Le.none _, fun _ _ _ _ _ _ _ _ _ _ _ _ => Le.none _, fun _ _ _ _ _ _ _ => Le.none _, fun _ _ _ _ _ _ => Le.none _⟩
 | u + 1 => by
  obtain ⟨h1, h2, h3, h4, h5, h6⟩ := scheme_Check_E_le hC u
  exact ⟨(by intros; refine lt ?_ scheme_Check_J1_of; simp only [scheme_Check_E]; unfold scheme_Check_J1_b; with_reducible repeat' first | intro _ | exact Le.refl _ | exact hC .. | exact h3 .. | exact Le.callV hC | apply Le.bind | apply Le.ite), (by intros; refine lt ?_ scheme_Check_J2_of; simp only [scheme_Check_E]; unfold scheme_Check_J2_b; with_reducible repeat' first | intro _ | exact Le.refl _ | exact hC .. | exact h3 .. | exact Le.callV hC | apply Le.bind | apply Le.ite), (by intros; refine lt ?_ scheme_Check_L1_of; simp only [scheme_Check_E]; unfold scheme_Check_L1_b; with_reducible repeat' first | intro _ | exact Le.refl _ | exact hC .. | exact h2 .. | exact h6 .. | exact Le.callV hC | apply Le.bind | apply Le.ite), (by intros; refine lt ?_ scheme_Check_J3_of; simp only [scheme_Check_E]; unfold scheme_Check_J3_b; with_reducible repeat' first | intro _ | exact Le.refl _ | exact hC .. | exact h5 .. | exact Le.callV hC | apply Le.bind | apply Le.ite), (by intros; refine lt ?_ scheme_Check_J4_of; simp only [scheme_Check_E]; unfold scheme_Check_J4_b; with_reducible repeat' first | intro _ | exact Le.refl _ | exact hC .. | exact h6 .. | exact Le.callV hC | apply Le.bind | apply Le.ite), (by intros; refine lt ?_ scheme_Check_L2_of; simp only [scheme_Check_E]; unfold scheme_Check_L2_b; with_reducible repeat' first | intro _ | exact Le.refl _ | exact hC .. | exact h4 .. | exact Le.callV hC | apply Le.bind | apply Le.ite)⟩
def scheme_Check_e (C : CallF) (u : Nat) (args : List PV) (S0 : St) : Rs := match args with
 | [(.agg [s_Syms, s_Funs])] => scheme_Check_b false C (scheme_Check_E C u).1 S0 s_Syms s_Funs
 | _ => none
theorem scheme_Check_e_le : LeE n_scheme_Check scheme_Check_e := by
 intro C hC u args S; unfold scheme_Check_e; split
 · obtain ⟨h1, h2, h3, h4, h5, h6⟩ := scheme_Check_E_le hC u; refine lt ?_ scheme_Check_of; unfold scheme_Check_b; with_reducible repeat' first | intro _ | exact Le.refl _ | exact hC .. | exact h1 .. | exact Le.callV hC | apply Le.bind | apply Le.ite
 · exact Le.none _
def tree_Ranks_E (C : CallF) : Nat → tree_Ranks_J1_t × tree_Ranks_L1_t
 | 0 => (fun _ _ _ _ _ _ => none, fun _ _ _ _ _ => none)
 | u + 1 => (tree_Ranks_J1_b false C (tree_Ranks_E C u).2, tree_Ranks_L1_b false C (tree_Ranks_E C u).1)
theorem tree_Ranks_E_le {C : CallF} (hC : LeC C) : ∀ u, (∀ a b c d e f, Le ((tree_Ranks_E C u).1 a b c d e f) (tree_Ranks_J1 false a b c d e f)) ∧ (∀ a b c d e, Le ((tree_Ranks_E C u).2 a b c d e) (tree_Ranks_L1 false a b c d e))
 | 0 => ⟨fun _ _ _ _ _ _ => Le.none _, fun _ _ _ _ _ => Le.none _⟩
 | u + 1 => by
  obtain ⟨h1, h2⟩ := tree_Ranks_E_le hC u
  exact ⟨(by intros; refine lt ?_ tree_Ranks_J1_of; simp only [tree_Ranks_E]; unfold tree_Ranks_J1_b; with_reducible repeat' first | intro _ | exact Le.refl _ | exact hC .. | exact h2 .. | exact Le.callV hC | apply Le.bind | apply Le.ite), (by intros; refine lt ?_ tree_Ranks_L1_of; simp only [tree_Ranks_E]; unfold tree_Ranks_L1_b; with_reducible repeat' first | intro _ | exact Le.refl _ | exact hC .. | exact h1 .. | exact Le.callV hC | apply Le.bind | apply Le.ite)⟩
def tree_Ranks_e (C : CallF) (u : Nat) (args : List PV) (S0 : St) : Rs := match args with
 | [ranks] => tree_Ranks_b false C (tree_Ranks_E C u).2 S0 ranks
 | _ => none
theorem tree_Ranks_e_le : LeE n_tree_Ranks tree_Ranks_e := by
 intro C hC u args S; unfold tree_Ranks_e; split
 · obtain ⟨h1, h2⟩ := tree_Ranks_E_le hC u; refine lt ?_ tree_Ranks_of; unfold tree_Ranks_b; with_reducible repeat' first | intro _ | exact Le.refl _ | exact hC .. | exact h2 .. | exact Le.callV hC | apply Le.bind | apply Le.ite
 · exact Le.none _
def auto_Check_1_e (C : CallF) (u : Nat) (args : List PV) (S0 : St) : Rs := match args with
 | [(.agg [(.int .i64 x_Kid), (.int .i64 x_State)]), y, y2, y3] => auto_Check_1_b false C  S0 x_Kid x_State y y2 y3
 | _ => none
theorem auto_Check_1_e_le : LeE n_auto_Check_1 auto_Check_1_e := by
 intro C hC u args S; unfold auto_Check_1_e; split
 · refine lt ?_ auto_Check_1_of; unfold auto_Check_1_b; with_reducible repeat' first | intro _ | exact Le.refl _ | exact hC .. | exact Le.callV hC | apply Le.bind | apply Le.ite
 · exact Le.none _
def slices_ContainsFunc_of_api_Need_e (C : CallF) (u : Nat) (args : List PV) (S0 : St) : Rs := match args with
 | [s, f] => slices_ContainsFunc_of_api_Need_b false C  S0 s f
 | _ => none
theorem slices_ContainsFunc_of_api_Need_e_le : LeE n_slices_ContainsFunc_of_api_Need slices_ContainsFunc_of_api_Need_e := by
 intro C hC u args S; unfold slices_ContainsFunc_of_api_Need_e; split
 · refine lt ?_ slices_ContainsFunc_of_api_Need_of; unfold slices_ContainsFunc_of_api_Need_b; with_reducible repeat' first | intro _ | exact Le.refl _ | exact hC .. | exact Le.callV hC | apply Le.bind | apply Le.ite
 · exact Le.none _
def auto_rising_of_api_Need_E (C : CallF) : Nat → auto_rising_of_api_Need_L1_t
 | 0 => fun _ _ _ _ _ => none
 | u + 1 => auto_rising_of_api_Need_L1_b false C (auto_rising_of_api_Need_E C u)
theorem auto_rising_of_api_Need_E_le {C : CallF} (hC : LeC C) : ∀ u, (∀ a b c d e, Le ((auto_rising_of_api_Need_E C u) a b c d e) (auto_rising_of_api_Need_L1 false a b c d e))
 | 0 => fun _ _ _ _ _ => Le.none _
 | u + 1 => by
  have h1 := auto_rising_of_api_Need_E_le hC u
  exact by intros; refine lt ?_ auto_rising_of_api_Need_L1_of; simp only [auto_rising_of_api_Need_E]; unfold auto_rising_of_api_Need_L1_b; with_reducible repeat' first | intro _ | exact Le.refl _ | exact hC .. | exact h1 .. | exact Le.callV hC | apply Le.bind | apply Le.ite
def auto_rising_of_api_Need_e (C : CallF) (u : Nat) (args : List PV) (S0 : St) : Rs := match args with
 | [l, before] => auto_rising_of_api_Need_b false C (auto_rising_of_api_Need_E C u) S0 l before
 | _ => none
theorem auto_rising_of_api_Need_e_le : LeE n_auto_rising_of_api_Need auto_rising_of_api_Need_e := by
 intro C hC u args S; unfold auto_rising_of_api_Need_e; split
 · have h1 := auto_rising_of_api_Need_E_le hC u; refine lt ?_ auto_rising_of_api_Need_of; unfold auto_rising_of_api_Need_b; with_reducible repeat' first | intro _ | exact Le.refl _ | exact hC .. | exact h1 .. | exact Le.callV hC | apply Le.bind | apply Le.ite
 · exact Le.none _
end
end Go.Proofs.YtjdknnlhhenpnaaGreatDoor
namespace Go.Proofs.YtjdknnlhhenpnaaGreatDoor
open Go Go.Abs
noncomputable section
def auto_Before_e (C : CallF) (u : Nat) (args : List PV) (S0 : St) : Rs := match args with
 | [(.agg [(.int .i64 x_Kid), (.int .i64 x_State)]), (.agg [(.int .i64 y_Kid), (.int .i64 y_State)])] => auto_Before_b false C  S0 x_Kid x_State y_Kid y_State
 | _ => none
theorem auto_Before_e_le : LeE n_auto_Before auto_Before_e := by
 intro C hC u args S; unfold auto_Before_e; split
 · refine lt ?_ auto_Before_of; unfold auto_Before_b; with_reducible repeat' first | intro _ | exact Le.refl _ | exact hC .. | exact Le.callV hC | apply Le.bind | apply Le.ite
 · exact Le.none _
def auto_rising_of_Lapi_Need_E (C : CallF) : Nat → auto_rising_of_Lapi_Need_L1_t
 | 0 => fun _ _ _ _ _ => none
 | u + 1 => auto_rising_of_Lapi_Need_L1_b false C (auto_rising_of_Lapi_Need_E C u)
theorem auto_rising_of_Lapi_Need_E_le {C : CallF} (hC : LeC C) : ∀ u, (∀ a b c d e, Le ((auto_rising_of_Lapi_Need_E C u) a b c d e) (auto_rising_of_Lapi_Need_L1 false a b c d e))
 | 0 => fun _ _ _ _ _ => Le.none _
 | u + 1 => by
  have h1 := auto_rising_of_Lapi_Need_E_le hC u
  exact by intros; refine lt ?_ auto_rising_of_Lapi_Need_L1_of; simp only [auto_rising_of_Lapi_Need_E]; unfold auto_rising_of_Lapi_Need_L1_b; with_reducible repeat' first | intro _ | exact Le.refl _ | exact hC .. | exact h1 .. | exact Le.callV hC | apply Le.bind | apply Le.ite
def auto_rising_of_Lapi_Need_e (C : CallF) (u : Nat) (args : List PV) (S0 : St) : Rs := match args with
 | [l, before] => auto_rising_of_Lapi_Need_b false C (auto_rising_of_Lapi_Need_E C u) S0 l before
 | _ => none
theorem auto_rising_of_Lapi_Need_e_le : LeE n_auto_rising_of_Lapi_Need auto_rising_of_Lapi_Need_e := by
 intro C hC u args S; unfold auto_rising_of_Lapi_Need_e; split
 · have h1 := auto_rising_of_Lapi_Need_E_le hC u; refine lt ?_ auto_rising_of_Lapi_Need_of; unfold auto_rising_of_Lapi_Need_b; with_reducible repeat' first | intro _ | exact Le.refl _ | exact hC .. | exact h1 .. | exact Le.callV hC | apply Le.bind | apply Le.ite
 · exact Le.none _
def auto_Lists_e (C : CallF) (u : Nat) (args : List PV) (S0 : St) : Rs := match args with
 | [x, y] => auto_Lists_b false C  S0 x y
 | _ => none
theorem auto_Lists_e_le : LeE n_auto_Lists auto_Lists_e := by
 intro C hC u args S; unfold auto_Lists_e; split
 · refine lt ?_ auto_Lists_of; unfold auto_Lists_b; with_reducible repeat' first | intro _ | exact Le.refl _ | exact hC .. | exact Le.callV hC | apply Le.bind | apply Le.ite
 · exact Le.none _
def sorts_measure_E (C : CallF) : Nat → sorts_measure_L1_t
 | 0 => fun _ _ _ _ _ _ _ _ => none
 | u + 1 => sorts_measure_L1_b false C (sorts_measure_E C u)
theorem sorts_measure_E_le {C : CallF} (hC : LeC C) : ∀ u, (∀ a b c d e f g i, Le ((sorts_measure_E C u) a b c d e f g i) (sorts_measure_L1 false a b c d e f g i))
 | 0 => fun _ _ _ _ _ _ _ _ => Le.none _
 | u + 1 => by
  have h1 := sorts_measure_E_le hC u
  exact by intros; refine lt ?_ sorts_measure_L1_of; simp only [sorts_measure_E]; unfold sorts_measure_L1_b; with_reducible repeat' first | intro _ | exact Le.refl _ | exact hC .. | exact h1 .. | exact Le.callV hC | apply Le.bind | apply Le.ite
def sorts_measure_e (C : CallF) (u : Nat) (args : List PV) (S0 : St) : Rs := match args with
 | [(.agg [s_Args]), left] => sorts_measure_b false C (sorts_measure_E C u) S0 s_Args left
 | _ => none
theorem sorts_measure_e_le : LeE n_sorts_measure sorts_measure_e := by
 intro C hC u args S; unfold sorts_measure_e; split
 · have h1 := sorts_measure_E_le hC u; refine lt ?_ sorts_measure_of; unfold sorts_measure_b; with_reducible repeat' first | intro _ | exact Le.refl _ | exact hC .. | exact h1 .. | exact Le.callV hC | apply Le.bind | apply Le.ite
 · exact Le.none _
def term_Place_sort_E (C : CallF) : Nat → term_Place_sort_J1_t × term_Place_sort_J2_t × term_Place_sort_L1_t
 | 0 => (fun _ _ _ _ _ _ _ _ _ _ => none, fun _ _ _ _ _ _ _ _ _ _ _ _ _ => none, fun _ _ _ _ _ _ _ _ _ _ _ _ => none)
 | u + 1 => (term_Place_sort_J1_b false C (term_Place_sort_E C u).2.2, term_Place_sort_J2_b false C (term_Place_sort_E C u).2.2, term_Place_sort_L1_b false C (term_Place_sort_E C u).2.1)
theorem term_Place_sort_E_le {C : CallF} (hC : LeC C) : ∀ u, (∀ a b c d e f g i j k, Le ((term_Place_sort_E C u).1 a b c d e f g i j k) (term_Place_sort_J1 false a b c d e f g i j k)) ∧ (∀ a b c d e f g i j k l m n, Le ((term_Place_sort_E C u).2.1 a b c d e f g i j k l m n) (term_Place_sort_J2 false a b c d e f g i j k l m n)) ∧ (∀ a b c d e f g i j k l m, Le ((term_Place_sort_E C u).2.2 a b c d e f g i j k l m) (term_Place_sort_L1 false a b c d e f g i j k l m))
 | 0 => ⟨fun _ _ _ _ _ _ _ _ _ _ => Le.none _, fun _ _ _ _ _ _ _ _ _ _ _ _ _ => Le.none _, fun _ _ _ _ _ _ _ _ _ _ _ _ => Le.none _⟩
 | u + 1 => by
  obtain ⟨h1, h2, h3⟩ := term_Place_sort_E_le hC u
  exact ⟨(by intros; refine lt ?_ term_Place_sort_J1_of; simp only [term_Place_sort_E]; unfold term_Place_sort_J1_b; with_reducible repeat' first | intro _ | exact Le.refl _ | exact hC .. | exact h3 .. | exact Le.callV hC | apply Le.bind | apply Le.ite), (by intros; refine lt ?_ term_Place_sort_J2_of; simp only [term_Place_sort_E]; unfold term_Place_sort_J2_b; with_reducible repeat' first | intro _ | exact Le.refl _ | exact hC .. | exact h3 .. | exact Le.callV hC | apply Le.bind | apply Le.ite), (by intros; refine lt ?_ term_Place_sort_L1_of; simp only [term_Place_sort_E]; unfold term_Place_sort_L1_b; with_reducible repeat' first | intro _ | exact Le.refl _ | exact hC .. | exact h2 .. | exact Le.callV hC | apply Le.bind | apply Le.ite)⟩
def term_Place_sort_e (C : CallF) (u : Nat) (args : List PV) (S0 : St) : Rs := match args with
 | [(.agg [p_Syms, p_Funs, p_Params]), (.agg [(.int .i64 t_Kind), (.int .i64 t_N), t_Args])] => term_Place_sort_b false C (term_Place_sort_E C u).1 S0 p_Syms p_Funs p_Params t_Kind t_N t_Args
 | _ => none
theorem term_Place_sort_e_le : LeE n_term_Place_sort term_Place_sort_e := by
 intro C hC u args S; unfold term_Place_sort_e; split
 · obtain ⟨h1, h2, h3⟩ := term_Place_sort_E_le hC u; refine lt ?_ term_Place_sort_of; unfold term_Place_sort_b; with_reducible repeat' first | intro _ | exact Le.refl _ | exact hC .. | exact h1 .. | exact Le.callV hC | apply Le.bind | apply Le.ite
 · exact Le.none _
def inter_write_E (C : CallF) : Nat → inter_write_J1_t × inter_write_L2_t × inter_write_L1_t
 | 0 => (fun _ _ _ _ _ _ _ _ _ _ _ _ _ => none, fun _ _ _ _ _ _ _ _ _ _ _ => none, fun _ _ _ _ _ _ _ => none)
 | u + 1 => (inter_write_J1_b false C (inter_write_E C u).2.1, inter_write_L2_b false C (inter_write_E C u).1 (inter_write_E C u).2.2, inter_write_L1_b false C (inter_write_E C u).2.1)
theorem inter_write_E_le {C : CallF} (hC : LeC C) : ∀ u, (∀ a b c d e f g i j k l m n, Le ((inter_write_E C u).1 a b c d e f g i j k l m n) (inter_write_J1 false a b c d e f g i j k l m n)) ∧ (∀ a b c d e f g i j k l, Le ((inter_write_E C u).2.1 a b c d e f g i j k l) (inter_write_L2 false a b c d e f g i j k l)) ∧ (∀ a b c d e f g, Le ((inter_write_E C u).2.2 a b c d e f g) (inter_write_L1 false a b c d e f g))
 | 0 => ⟨fun _ _ _ _ _ _ _ _ _ _ _ _ _ => Le.none _, fun _ _ _ _ _ _ _ _ _ _ _ => Le.none _, fun _ _ _ _ _ _ _ => Le.none _⟩
 | u + 1 => by
  obtain ⟨h1, h2, h3⟩ := inter_write_E_le hC u
  exact ⟨(by intros; refine lt ?_ inter_write_J1_of; simp only [inter_write_E]; unfold inter_write_J1_b; with_reducible repeat' first | intro _ | exact Le.refl _ | exact hC .. | exact h2 .. | exact Le.callV hC | apply Le.bind | apply Le.ite), (by intros; refine lt ?_ inter_write_L2_of; simp only [inter_write_E]; unfold inter_write_L2_b; with_reducible repeat' first | intro _ | exact Le.refl _ | exact hC .. | exact h1 .. | exact h3 .. | exact Le.callV hC | apply Le.bind | apply Le.ite), (by intros; refine lt ?_ inter_write_L1_of; simp only [inter_write_E]; unfold inter_write_L1_b; with_reducible repeat' first | intro _ | exact Le.refl _ | exact hC .. | exact h2 .. | exact Le.callV hC | apply Le.bind | apply Le.ite)⟩
def inter_write_e (C : CallF) (u : Nat) (args : List PV) (S0 : St) : Rs := match args with
 | [out, (.agg [(.int .i64 t_State), t_Args])] => inter_write_b false C (inter_write_E C u).2.2 S0 out t_State t_Args
 | _ => none
theorem inter_write_e_le : LeE n_inter_write inter_write_e := by
 intro C hC u args S; unfold inter_write_e; split
 · obtain ⟨h1, h2, h3⟩ := inter_write_E_le hC u; refine lt ?_ inter_write_of; unfold inter_write_b; with_reducible repeat' first | intro _ | exact Le.refl _ | exact hC .. | exact h3 .. | exact Le.callV hC | apply Le.bind | apply Le.ite
 · exact Le.none _
def judge_Judge_head_e (C : CallF) (u : Nat) (args : List PV) (S0 : St) : Rs := match args with
 | [(.ref ji 0), t, types, (.agg [(.int .i64 ty_State), ty_Args])] => judge_Judge_head_b false C  S0 ji t types ty_State ty_Args
 | _ => none
theorem judge_Judge_head_e_le : LeE n_judge_Judge_head judge_Judge_head_e := by
 intro C hC u args S; unfold judge_Judge_head_e; split
 · refine lt ?_ judge_Judge_head_of; unfold judge_Judge_head_b; with_reducible repeat' first | intro _ | exact Le.refl _ | exact hC .. | exact Le.callV hC | apply Le.bind | apply Le.ite
 · exact Le.none _
def judge_Judge_has_1_e (C : CallF) (u : Nat) (args : List PV) (S0 : St) : Rs := match args with
 | [(.agg [(.int .i64 x_Kid), (.int .i64 x_State)]), y, y2, y3] => judge_Judge_has_1_b false C  S0 x_Kid x_State y y2 y3
 | _ => none
theorem judge_Judge_has_1_e_le : LeE n_judge_Judge_has_1 judge_Judge_has_1_e := by
 intro C hC u args S; unfold judge_Judge_has_1_e; split
 · refine lt ?_ judge_Judge_has_1_of; unfold judge_Judge_has_1_b; with_reducible repeat' first | intro _ | exact Le.refl _ | exact hC .. | exact Le.callV hC | apply Le.bind | apply Le.ite
 · exact Le.none _
def judge_Judge_met_e (C : CallF) (u : Nat) (args : List PV) (S0 : St) : Rs := match args with
 | [(.ref ji 0), t, (.agg [(.int .i64 ty_State), ty_Args]), (.agg [(.int .i64 x_Kid), (.int .i64 x_State)])] => judge_Judge_met_b false C  S0 ji t ty_State ty_Args x_Kid x_State
 | _ => none
theorem judge_Judge_met_e_le : LeE n_judge_Judge_met judge_Judge_met_e := by
 intro C hC u args S; unfold judge_Judge_met_e; split
 · refine lt ?_ judge_Judge_met_of; unfold judge_Judge_met_b; with_reducible repeat' first | intro _ | exact Le.refl _ | exact hC .. | exact Le.callV hC | apply Le.bind | apply Le.ite
 · exact Le.none _
def vref02_head_E (C : CallF) : Nat → vref02_head_J1_t
 | 0 => fun _ _ _ _ _ _ _ _ => none
 | u + 1 => vref02_head_J1_b false C
theorem vref02_head_E_le {C : CallF} (hC : LeC C) : ∀ u, (∀ a b c d e f g i, Le ((vref02_head_E C u) a b c d e f g i) (vref02_head_J1 false a b c d e f g i))
 | 0 => fun _ _ _ _ _ _ _ _ => Le.none _
 | u + 1 => by
  have h1 := vref02_head_E_le hC u
  exact by intros; refine lt ?_ vref02_head_J1_of; simp only [vref02_head_E]; unfold vref02_head_J1_b; with_reducible repeat' first | intro _ | exact Le.refl _ | exact hC .. | exact Le.callV hC | apply Le.bind | apply Le.ite
def vref02_head_e (C : CallF) (u : Nat) (args : List PV) (S0 : St) : Rs := match args with
 | [(.agg [p_Syms, p_Funs, p_Params]), (.agg [(.int .i64 t_Kind), (.int .i64 t_N), t_Args])] => vref02_head_b false C (vref02_head_E C u) S0 p_Syms p_Funs p_Params t_Kind t_N t_Args
 | _ => none
theorem vref02_head_e_le : LeE n_vref02_head vref02_head_e := by
 intro C hC u args S; unfold vref02_head_e; split
 · have h1 := vref02_head_E_le hC u; refine lt ?_ vref02_head_of; unfold vref02_head_b; with_reducible repeat' first | intro _ | exact Le.refl _ | exact hC .. | exact h1 .. | exact Le.callV hC | apply Le.bind | apply Le.ite
 · exact Le.none _
def vref09_alternative_E (C : CallF) : Nat → vref09_alternative_J1_t × vref09_alternative_L1_t
 | 0 => (fun _ _ _ _ _ _ _ _ => none, fun _ _ _ _ _ _ _ => none)
 | u + 1 => (vref09_alternative_J1_b false C (vref09_alternative_E C u).2, vref09_alternative_L1_b false C (vref09_alternative_E C u).1)
theorem vref09_alternative_E_le {C : CallF} (hC : LeC C) : ∀ u, (∀ a b c d e f g i, Le ((vref09_alternative_E C u).1 a b c d e f g i) (vref09_alternative_J1 false a b c d e f g i)) ∧ (∀ a b c d e f g, Le ((vref09_alternative_E C u).2 a b c d e f g) (vref09_alternative_L1 false a b c d e f g))
 | 0 => ⟨fun _ _ _ _ _ _ _ _ => Le.none _, fun _ _ _ _ _ _ _ => Le.none _⟩
 | u + 1 => by
  obtain ⟨h1, h2⟩ := vref09_alternative_E_le hC u
  exact ⟨(by intros; refine lt ?_ vref09_alternative_J1_of; simp only [vref09_alternative_E]; unfold vref09_alternative_J1_b; with_reducible repeat' first | intro _ | exact Le.refl _ | exact hC .. | exact h2 .. | exact Le.callV hC | apply Le.bind | apply Le.ite), (by intros; refine lt ?_ vref09_alternative_L1_of; simp only [vref09_alternative_E]; unfold vref09_alternative_L1_b; with_reducible repeat' first | intro _ | exact Le.refl _ | exact hC .. | exact h1 .. | exact Le.callV hC | apply Le.bind | apply Le.ite)⟩
def vref09_alternative_e (C : CallF) (u : Nat) (args : List PV) (S0 : St) : Rs := match args with
 | [l, (.int .i64 rank), (.int .i64 states)] => vref09_alternative_b false C (vref09_alternative_E C u).2 S0 l rank states
 | _ => none
theorem vref09_alternative_e_le : LeE n_vref09_alternative vref09_alternative_e := by
 intro C hC u args S; unfold vref09_alternative_e; split
 · obtain ⟨h1, h2⟩ := vref09_alternative_E_le hC u; refine lt ?_ vref09_alternative_of; unfold vref09_alternative_b; with_reducible repeat' first | intro _ | exact Le.refl _ | exact hC .. | exact h2 .. | exact Le.callV hC | apply Le.bind | apply Le.ite
 · exact Le.none _
def vref09_Before_E (C : CallF) : Nat → vref09_Before_J1_t
 | 0 => fun _ _ _ _ _ _ _ => none
 | u + 1 => vref09_Before_J1_b false C
theorem vref09_Before_E_le {C : CallF} (hC : LeC C) : ∀ u, (∀ a b c d e f g, Le ((vref09_Before_E C u) a b c d e f g) (vref09_Before_J1 false a b c d e f g))
 | 0 => fun _ _ _ _ _ _ _ => Le.none _
 | u + 1 => by
  have h1 := vref09_Before_E_le hC u
  exact by intros; refine lt ?_ vref09_Before_J1_of; simp only [vref09_Before_E]; unfold vref09_Before_J1_b; with_reducible repeat' first | intro _ | exact Le.refl _ | exact hC .. | exact Le.callV hC | apply Le.bind | apply Le.ite
def vref09_Before_e (C : CallF) (u : Nat) (args : List PV) (S0 : St) : Rs := match args with
 | [(.agg [(.int .i64 a_Kid), (.int .i64 a_State)]), (.agg [(.int .i64 b_Kid), (.int .i64 b_State)])] => vref09_Before_b false C (vref09_Before_E C u) S0 a_Kid a_State b_Kid b_State
 | _ => none
theorem vref09_Before_e_le : LeE n_vref09_Before vref09_Before_e := by
 intro C hC u args S; unfold vref09_Before_e; split
 · have h1 := vref09_Before_E_le hC u; refine lt ?_ vref09_Before_of; unfold vref09_Before_b; with_reducible repeat' first | intro _ | exact Le.refl _ | exact hC .. | exact h1 .. | exact Le.callV hC | apply Le.bind | apply Le.ite
 · exact Le.none _
def inter_measure_E (C : CallF) : Nat → inter_measure_L2_t × inter_measure_L1_t
 | 0 => (fun _ _ _ _ _ _ _ _ _ _ _ => none, fun _ _ _ _ _ _ _ => none)
 | u + 1 => (inter_measure_L2_b false C (inter_measure_E C u).1 (inter_measure_E C u).2, inter_measure_L1_b false C (inter_measure_E C u).1)
theorem inter_measure_E_le {C : CallF} (hC : LeC C) : ∀ u, (∀ a b c d e f g i j k l, Le ((inter_measure_E C u).1 a b c d e f g i j k l) (inter_measure_L2 false a b c d e f g i j k l)) ∧ (∀ a b c d e f g, Le ((inter_measure_E C u).2 a b c d e f g) (inter_measure_L1 false a b c d e f g))
 | 0 => ⟨fun _ _ _ _ _ _ _ _ _ _ _ => Le.none _, fun _ _ _ _ _ _ _ => Le.none _⟩
 | u + 1 => by
  obtain ⟨h1, h2⟩ := inter_measure_E_le hC u
  exact ⟨(by intros; refine lt ?_ inter_measure_L2_of; simp only [inter_measure_E]; unfold inter_measure_L2_b; with_reducible repeat' first | intro _ | exact Le.refl _ | exact hC .. | exact h1 .. | exact h2 .. | exact Le.callV hC | apply Le.bind | apply Le.ite), (by intros; refine lt ?_ inter_measure_L1_of; simp only [inter_measure_E]; unfold inter_measure_L1_b; with_reducible repeat' first | intro _ | exact Le.refl _ | exact hC .. | exact h1 .. | exact Le.callV hC | apply Le.bind | apply Le.ite)⟩
def inter_measure_e (C : CallF) (u : Nat) (args : List PV) (S0 : St) : Rs := match args with
 | [(.agg [(.int .i64 t_State), t_Args]), left] => inter_measure_b false C (inter_measure_E C u).2 S0 t_State t_Args left
 | _ => none
theorem inter_measure_e_le : LeE n_inter_measure inter_measure_e := by
 intro C hC u args S; unfold inter_measure_e; split
 · obtain ⟨h1, h2⟩ := inter_measure_E_le hC u; refine lt ?_ inter_measure_of; unfold inter_measure_b; with_reducible repeat' first | intro _ | exact Le.refl _ | exact hC .. | exact h2 .. | exact Le.callV hC | apply Le.bind | apply Le.ite
 · exact Le.none _
def vref01_begins_e (C : CallF) (u : Nat) (args : List PV) (S0 : St) : Rs := match args with
 | [(.str text), (.int .i64 at_), (.str what)] => vref01_begins_b false C  S0 text at_ what
 | _ => none
theorem vref01_begins_e_le : LeE n_vref01_begins vref01_begins_e := by
 intro C hC u args S; unfold vref01_begins_e; split
 · refine lt ?_ vref01_begins_of; unfold vref01_begins_b; with_reducible repeat' first | intro _ | exact Le.refl _ | exact hC .. | exact Le.callV hC | apply Le.bind | apply Le.ite
 · exact Le.none _
def vref03_index_E (C : CallF) : Nat → vref03_index_J1_t × vref03_index_L1_t × vref03_index_J2_t × vref03_index_L2_t
 | 0 => (fun _ _ _ _ _ _ _ _ => none, fun _ _ _ _ _ _ _ => none, fun _ _ _ _ _ _ _ _ => none, fun _ _ _ _ _ _ _ => none)
 | u + 1 => (vref03_index_J1_b false C (vref03_index_E C u).2.1 (vref03_index_E C u).2.2.2, vref03_index_L1_b false C (vref03_index_E C u).1, vref03_index_J2_b false C (vref03_index_E C u).2.2.2, vref03_index_L2_b false C (vref03_index_E C u).2.2.1)
theorem vref03_index_E_le {C : CallF} (hC : LeC C) : ∀ u, (∀ a b c d e f g i, Le ((vref03_index_E C u).1 a b c d e f g i) (vref03_index_J1 false a b c d e f g i)) ∧ (∀ a b c d e f g, Le ((vref03_index_E C u).2.1 a b c d e f g) (vref03_index_L1 false a b c d e f g)) ∧ (∀ a b c d e f g i, Le ((vref03_index_E C u).2.2.1 a b c d e f g i) (vref03_index_J2 false a b c d e f g i)) ∧ (∀ a b c d e f g, Le ((vref03_index_E C u).2.2.2 a b c d e f g) (vref03_index_L2 false a b c d e f g))
 | 0 => ⟨fun _ _ _ _ _ _ _ _ => Le.none _, fun _ _ _ _ _ _ _ => Le.none _, fun _ _ _ _ _ _ _ _ => Le.none _, fun _ _ _ _ _ _ _ => Le.none _⟩
 | u + 1 => by
  obtain ⟨h1, h2, h3, h4⟩ := vref03_index_E_le hC u
  exact ⟨(by intros; refine lt ?_ vref03_index_J1_of; simp only [vref03_index_E]; unfold vref03_index_J1_b; with_reducible repeat' first | intro _ | exact Le.refl _ | exact hC .. | exact h2 .. | exact h4 .. | exact Le.callV hC | apply Le.bind | apply Le.ite), (by intros; refine lt ?_ vref03_index_L1_of; simp only [vref03_index_E]; unfold vref03_index_L1_b; with_reducible repeat' first | intro _ | exact Le.refl _ | exact hC .. | exact h1 .. | exact Le.callV hC | apply Le.bind | apply Le.ite), (by intros; refine lt ?_ vref03_index_J2_of; simp only [vref03_index_E]; unfold vref03_index_J2_b; with_reducible repeat' first | intro _ | exact Le.refl _ | exact hC .. | exact h4 .. | exact Le.callV hC | apply Le.bind | apply Le.ite), (by intros; refine lt ?_ vref03_index_L2_of; simp only [vref03_index_E]; unfold vref03_index_L2_b; with_reducible repeat' first | intro _ | exact Le.refl _ | exact hC .. | exact h3 .. | exact Le.callV hC | apply Le.bind | apply Le.ite)⟩
def vref03_index_e (C : CallF) (u : Nat) (args : List PV) (S0 : St) : Rs := match args with
 | [(.agg [s_Syms, s_Funs]), (.bool symbol), (.str name)] => vref03_index_b false C (vref03_index_E C u).2.1 S0 s_Syms s_Funs symbol name
 | _ => none
theorem vref03_index_e_le : LeE n_vref03_index vref03_index_e := by
 intro C hC u args S; unfold vref03_index_e; split
 · obtain ⟨h1, h2, h3, h4⟩ := vref03_index_E_le hC u; refine lt ?_ vref03_index_of; unfold vref03_index_b; with_reducible repeat' first | intro _ | exact Le.refl _ | exact hC .. | exact h2 .. | exact Le.callV hC | apply Le.bind | apply Le.ite
 · exact Le.none _
def term_Symbols_E (C : CallF) : Nat → term_Symbols_J1_t × term_Symbols_L1_t
 | 0 => (fun _ _ _ _ _ _ _ _ _ => none, fun _ _ _ _ _ _ => none)
 | u + 1 => (term_Symbols_J1_b false C (term_Symbols_E C u).2, term_Symbols_L1_b false C (term_Symbols_E C u).1)
theorem term_Symbols_E_le {C : CallF} (hC : LeC C) : ∀ u, (∀ a b c d e f g i j, Le ((term_Symbols_E C u).1 a b c d e f g i j) (term_Symbols_J1 false a b c d e f g i j)) ∧ (∀ a b c d e f, Le ((term_Symbols_E C u).2 a b c d e f) (term_Symbols_L1 false a b c d e f))
 | 0 => ⟨fun _ _ _ _ _ _ _ _ _ => Le.none _, fun _ _ _ _ _ _ => Le.none _⟩
 | u + 1 => by
  obtain ⟨h1, h2⟩ := term_Symbols_E_le hC u
  exact ⟨(by intros; refine lt ?_ term_Symbols_J1_of; simp only [term_Symbols_E]; unfold term_Symbols_J1_b; with_reducible repeat' first | intro _ | exact Le.refl _ | exact hC .. | exact h2 .. | exact Le.callV hC | apply Le.bind | apply Le.ite), (by intros; refine lt ?_ term_Symbols_L1_of; simp only [term_Symbols_E]; unfold term_Symbols_L1_b; with_reducible repeat' first | intro _ | exact Le.refl _ | exact hC .. | exact h1 .. | exact Le.callV hC | apply Le.bind | apply Le.ite)⟩
def term_Symbols_e (C : CallF) (u : Nat) (args : List PV) (S0 : St) : Rs := match args with
 | [l] => term_Symbols_b false C (term_Symbols_E C u).2 S0 l
 | _ => none
theorem term_Symbols_e_le : LeE n_term_Symbols term_Symbols_e := by
 intro C hC u args S; unfold term_Symbols_e; split
 · obtain ⟨h1, h2⟩ := term_Symbols_E_le hC u; refine lt ?_ term_Symbols_of; unfold term_Symbols_b; with_reducible repeat' first | intro _ | exact Le.refl _ | exact hC .. | exact h2 .. | exact Le.callV hC | apply Le.bind | apply Le.ite
 · exact Le.none _
end
end Go.Proofs.YtjdknnlhhenpnaaGreatDoor
namespace Go.Proofs.YtjdknnlhhenpnaaGreatDoor
open Go Go.Abs
noncomputable section
def term_Name_E (C : CallF) : Nat → term_Name_J1_t × term_Name_J2_t × term_Name_L1_t
 | 0 => (fun _ _ _ _ => none, fun _ _ _ _ _ _ => none, fun _ _ _ _ _ => none)
 | u + 1 => (term_Name_J1_b false C (term_Name_E C u).2.2, term_Name_J2_b false C (term_Name_E C u).2.2, term_Name_L1_b false C (term_Name_E C u).2.1)
theorem term_Name_E_le {C : CallF} (hC : LeC C) : ∀ u, (∀ a b c d, Le ((term_Name_E C u).1 a b c d) (term_Name_J1 false a b c d)) ∧ (∀ a b c d e f, Le ((term_Name_E C u).2.1 a b c d e f) (term_Name_J2 false a b c d e f)) ∧ (∀ a b c d e, Le ((term_Name_E C u).2.2 a b c d e) (term_Name_L1 false a b c d e))
 | 0 => ⟨fun _ _ _ _ => Le.none _, fun _ _ _ _ _ _ => Le.none _, fun _ _ _ _ _ => Le.none _⟩
 | u + 1 => by
  obtain ⟨h1, h2, h3⟩ := term_Name_E_le hC u
  exact ⟨(by intros; refine lt ?_ term_Name_J1_of; simp only [term_Name_E]; unfold term_Name_J1_b; with_reducible repeat' first | intro _ | exact Le.refl _ | exact hC .. | exact h3 .. | exact Le.callV hC | apply Le.bind | apply Le.ite), (by intros; refine lt ?_ term_Name_J2_of; simp only [term_Name_E]; unfold term_Name_J2_b; with_reducible repeat' first | intro _ | exact Le.refl _ | exact hC .. | exact h3 .. | exact Le.callV hC | apply Le.bind | apply Le.ite), (by intros; refine lt ?_ term_Name_L1_of; simp only [term_Name_E]; unfold term_Name_L1_b; with_reducible repeat' first | intro _ | exact Le.refl _ | exact hC .. | exact h2 .. | exact Le.callV hC | apply Le.bind | apply Le.ite)⟩
def term_Name_e (C : CallF) (u : Nat) (args : List PV) (S0 : St) : Rs := match args with
 | [(.str s)] => term_Name_b false C (term_Name_E C u).1 S0 s
 | _ => none
theorem term_Name_e_le : LeE n_term_Name term_Name_e := by
 intro C hC u args S; unfold term_Name_e; split
 · obtain ⟨h1, h2, h3⟩ := term_Name_E_le hC u; refine lt ?_ term_Name_of; unfold term_Name_b; with_reducible repeat' first | intro _ | exact Le.refl _ | exact hC .. | exact h1 .. | exact Le.callV hC | apply Le.bind | apply Le.ite
 · exact Le.none _
def slices_IndexFunc_of_api_Need_E (C : CallF) : Nat → slices_IndexFunc_of_api_Need_L1_t
 | 0 => fun _ _ _ _ _ _ => none
 | u + 1 => slices_IndexFunc_of_api_Need_L1_b false C (slices_IndexFunc_of_api_Need_E C u)
theorem slices_IndexFunc_of_api_Need_E_le {C : CallF} (hC : LeC C) : ∀ u, (∀ a b c d e f, Le ((slices_IndexFunc_of_api_Need_E C u) a b c d e f) (slices_IndexFunc_of_api_Need_L1 false a b c d e f))
 | 0 => fun _ _ _ _ _ _ => Le.none _
 | u + 1 => by
  have h1 := slices_IndexFunc_of_api_Need_E_le hC u
  exact by intros; refine lt ?_ slices_IndexFunc_of_api_Need_L1_of; simp only [slices_IndexFunc_of_api_Need_E]; unfold slices_IndexFunc_of_api_Need_L1_b; with_reducible repeat' first | intro _ | exact Le.refl _ | exact hC .. | exact h1 .. | exact Le.callV hC | apply Le.bind | apply Le.ite
def slices_IndexFunc_of_api_Need_e (C : CallF) (u : Nat) (args : List PV) (S0 : St) : Rs := match args with
 | [s, f] => slices_IndexFunc_of_api_Need_b false C (slices_IndexFunc_of_api_Need_E C u) S0 s f
 | _ => none
theorem slices_IndexFunc_of_api_Need_e_le : LeE n_slices_IndexFunc_of_api_Need slices_IndexFunc_of_api_Need_e := by
 intro C hC u args S; unfold slices_IndexFunc_of_api_Need_e; split
 · have h1 := slices_IndexFunc_of_api_Need_E_le hC u; refine lt ?_ slices_IndexFunc_of_api_Need_of; unfold slices_IndexFunc_of_api_Need_b; with_reducible repeat' first | intro _ | exact Le.refl _ | exact hC .. | exact h1 .. | exact Le.callV hC | apply Le.bind | apply Le.ite
 · exact Le.none _
def slices_CompareFunc_of_api_Need_E (C : CallF) : Nat → slices_CompareFunc_of_api_Need_L1_t
 | 0 => fun _ _ _ _ _ _ _ => none
 | u + 1 => slices_CompareFunc_of_api_Need_L1_b false C (slices_CompareFunc_of_api_Need_E C u)
theorem slices_CompareFunc_of_api_Need_E_le {C : CallF} (hC : LeC C) : ∀ u, (∀ a b c d e f g, Le ((slices_CompareFunc_of_api_Need_E C u) a b c d e f g) (slices_CompareFunc_of_api_Need_L1 false a b c d e f g))
 | 0 => fun _ _ _ _ _ _ _ => Le.none _
 | u + 1 => by
  have h1 := slices_CompareFunc_of_api_Need_E_le hC u
  exact by intros; refine lt ?_ slices_CompareFunc_of_api_Need_L1_of; simp only [slices_CompareFunc_of_api_Need_E]; unfold slices_CompareFunc_of_api_Need_L1_b; with_reducible repeat' first | intro _ | exact Le.refl _ | exact hC .. | exact h1 .. | exact Le.callV hC | apply Le.bind | apply Le.ite
def slices_CompareFunc_of_api_Need_e (C : CallF) (u : Nat) (args : List PV) (S0 : St) : Rs := match args with
 | [s1, s2, cmp] => slices_CompareFunc_of_api_Need_b false C (slices_CompareFunc_of_api_Need_E C u) S0 s1 s2 cmp
 | _ => none
theorem slices_CompareFunc_of_api_Need_e_le : LeE n_slices_CompareFunc_of_api_Need slices_CompareFunc_of_api_Need_e := by
 intro C hC u args S; unfold slices_CompareFunc_of_api_Need_e; split
 · have h1 := slices_CompareFunc_of_api_Need_E_le hC u; refine lt ?_ slices_CompareFunc_of_api_Need_of; unfold slices_CompareFunc_of_api_Need_b; with_reducible repeat' first | intro _ | exact Le.refl _ | exact hC .. | exact h1 .. | exact Le.callV hC | apply Le.bind | apply Le.ite
 · exact Le.none _
def term_Place_head_E (C : CallF) : Nat → term_Place_head_J3_t × term_Place_head_J2_t × term_Place_head_J1_t × term_Place_head_J4_t
 | 0 => (fun _ _ _ _ _ _ _ _ _ => none, fun _ _ _ _ _ _ _ _ _ => none, fun _ _ _ _ _ _ _ _ _ => none, fun _ _ _ _ _ _ _ _ => none)
 | u + 1 => (term_Place_head_J3_b false C (term_Place_head_E C u).2.2.2, term_Place_head_J2_b false C (term_Place_head_E C u).1, term_Place_head_J1_b false C (term_Place_head_E C u).2.1, term_Place_head_J4_b false C )
theorem term_Place_head_E_le {C : CallF} (hC : LeC C) : ∀ u, (∀ a b c d e f g i j, Le ((term_Place_head_E C u).1 a b c d e f g i j) (term_Place_head_J3 false a b c d e f g i j)) ∧ (∀ a b c d e f g i j, Le ((term_Place_head_E C u).2.1 a b c d e f g i j) (term_Place_head_J2 false a b c d e f g i j)) ∧ (∀ a b c d e f g i j, Le ((term_Place_head_E C u).2.2.1 a b c d e f g i j) (term_Place_head_J1 false a b c d e f g i j)) ∧ (∀ a b c d e f g i, Le ((term_Place_head_E C u).2.2.2 a b c d e f g i) (term_Place_head_J4 false a b c d e f g i))
 | 0 => ⟨fun _ _ _ _ _ _ _ _ _ => Le.none _, fun _ _ _ _ _ _ _ _ _ => Le.none _, fun _ _ _ _ _ _ _ _ _ => Le.none _, fun _ _ _ _ _ _ _ _ => Le.none _⟩
 | u + 1 => by
  obtain ⟨h1, h2, h3, h4⟩ := term_Place_head_E_le hC u
  exact ⟨(by intros; refine lt ?_ term_Place_head_J3_of; simp only [term_Place_head_E]; unfold term_Place_head_J3_b; with_reducible repeat' first | intro _ | exact Le.refl _ | exact hC .. | exact h4 .. | exact Le.callV hC | apply Le.bind | apply Le.ite), (by intros; refine lt ?_ term_Place_head_J2_of; simp only [term_Place_head_E]; unfold term_Place_head_J2_b; with_reducible repeat' first | intro _ | exact Le.refl _ | exact hC .. | exact h1 .. | exact Le.callV hC | apply Le.bind | apply Le.ite), (by intros; refine lt ?_ term_Place_head_J1_of; simp only [term_Place_head_E]; unfold term_Place_head_J1_b; with_reducible repeat' first | intro _ | exact Le.refl _ | exact hC .. | exact h2 .. | exact Le.callV hC | apply Le.bind | apply Le.ite), (by intros; refine lt ?_ term_Place_head_J4_of; simp only [term_Place_head_E]; unfold term_Place_head_J4_b; with_reducible repeat' first | intro _ | exact Le.refl _ | exact hC .. | exact Le.callV hC | apply Le.bind | apply Le.ite)⟩
def term_Place_head_e (C : CallF) (u : Nat) (args : List PV) (S0 : St) : Rs := match args with
 | [(.agg [p_Syms, p_Funs, p_Params]), (.agg [(.int .i64 t_Kind), (.int .i64 t_N), t_Args])] => term_Place_head_b false C (term_Place_head_E C u).2.2.1 (term_Place_head_E C u).2.2.2 S0 p_Syms p_Funs p_Params t_Kind t_N t_Args
 | _ => none
theorem term_Place_head_e_le : LeE n_term_Place_head term_Place_head_e := by
 intro C hC u args S; unfold term_Place_head_e; split
 · obtain ⟨h1, h2, h3, h4⟩ := term_Place_head_E_le hC u; refine lt ?_ term_Place_head_of; unfold term_Place_head_b; with_reducible repeat' first | intro _ | exact Le.refl _ | exact hC .. | exact h3 .. | exact h4 .. | exact Le.callV hC | apply Le.bind | apply Le.ite
 · exact Le.none _
def sorts_Same_e (C : CallF) (u : Nat) (args : List PV) (S0 : St) : Rs := match args with
 | [(.agg [a_Args]), (.agg [b_Args])] => sorts_Same_b false C  S0 a_Args b_Args
 | _ => none
theorem sorts_Same_e_le : LeE n_sorts_Same sorts_Same_e := by
 intro C hC u args S; unfold sorts_Same_e; split
 · refine lt ?_ sorts_Same_of; unfold sorts_Same_b; with_reducible repeat' first | intro _ | exact Le.refl _ | exact hC .. | exact Le.callV hC | apply Le.bind | apply Le.ite
 · exact Le.none _
def strconv_Itoa_e (C : CallF) (u : Nat) (args : List PV) (S0 : St) : Rs := match args with
 | [(.int .i64 i)] => strconv_Itoa_b false C  S0 i
 | _ => none
theorem strconv_Itoa_e_le : LeE n_strconv_Itoa strconv_Itoa_e := by
 intro C hC u args S; unfold strconv_Itoa_e; split
 · refine lt ?_ strconv_Itoa_of; unfold strconv_Itoa_b; with_reducible repeat' first | intro _ | exact Le.refl _ | exact hC .. | exact Le.callV hC | apply Le.bind | apply Le.ite
 · exact Le.none _
def judge_Judge_head_1_E (C : CallF) : Nat → judge_Judge_head_1_L1_t
 | 0 => fun _ _ _ _ _ _ _ _ _ => none
 | u + 1 => judge_Judge_head_1_L1_b false C (judge_Judge_head_1_E C u)
theorem judge_Judge_head_1_E_le {C : CallF} (hC : LeC C) : ∀ u, (∀ a b c d e f g i j, Le ((judge_Judge_head_1_E C u) a b c d e f g i j) (judge_Judge_head_1_L1 false a b c d e f g i j))
 | 0 => fun _ _ _ _ _ _ _ _ _ => Le.none _
 | u + 1 => by
  have h1 := judge_Judge_head_1_E_le hC u
  exact by intros; refine lt ?_ judge_Judge_head_1_L1_of; simp only [judge_Judge_head_1_E]; unfold judge_Judge_head_1_L1_b; with_reducible repeat' first | intro _ | exact Le.refl _ | exact hC .. | exact h1 .. | exact Le.callV hC | apply Le.bind | apply Le.ite
def judge_Judge_head_1_e (C : CallF) (u : Nat) (args : List PV) (S0 : St) : Rs := match args with
 | [(.agg [(.int .i64 r_State), r_Args]), y, y2, y3, y4] => judge_Judge_head_1_b false C (judge_Judge_head_1_E C u) S0 r_State r_Args y y2 y3 y4
 | _ => none
theorem judge_Judge_head_1_e_le : LeE n_judge_Judge_head_1 judge_Judge_head_1_e := by
 intro C hC u args S; unfold judge_Judge_head_1_e; split
 · have h1 := judge_Judge_head_1_E_le hC u; refine lt ?_ judge_Judge_head_1_of; unfold judge_Judge_head_1_b; with_reducible repeat' first | intro _ | exact Le.refl _ | exact hC .. | exact h1 .. | exact Le.callV hC | apply Le.bind | apply Le.ite
 · exact Le.none _
def judge_Judge_head_1_1_e (C : CallF) (u : Nat) (args : List PV) (S0 : St) : Rs := match args with
 | [(.agg [(.int .i64 x_State), x_Args]), y, y2, y3] => judge_Judge_head_1_1_b false C  S0 x_State x_Args y y2 y3
 | _ => none
theorem judge_Judge_head_1_1_e_le : LeE n_judge_Judge_head_1_1 judge_Judge_head_1_1_e := by
 intro C hC u args S; unfold judge_Judge_head_1_1_e; split
 · refine lt ?_ judge_Judge_head_1_1_of; unfold judge_Judge_head_1_1_b; with_reducible repeat' first | intro _ | exact Le.refl _ | exact hC .. | exact Le.callV hC | apply Le.bind | apply Le.ite
 · exact Le.none _
def judge_Judge_met_1_e (C : CallF) (u : Nat) (args : List PV) (S0 : St) : Rs := match args with
 | [(.agg [(.int .i64 y_State), y_Args]), y] => judge_Judge_met_1_b false C  S0 y_State y_Args y
 | _ => none
theorem judge_Judge_met_1_e_le : LeE n_judge_Judge_met_1 judge_Judge_met_1_e := by
 intro C hC u args S; unfold judge_Judge_met_1_e; split
 · refine lt ?_ judge_Judge_met_1_of; unfold judge_Judge_met_1_b; with_reducible repeat' first | intro _ | exact Le.refl _ | exact hC .. | exact Le.callV hC | apply Le.bind | apply Le.ite
 · exact Le.none _
def sorts_same_E (C : CallF) : Nat → sorts_same_L1_t
 | 0 => fun _ _ _ _ _ _ => none
 | u + 1 => sorts_same_L1_b false C (sorts_same_E C u)
theorem sorts_same_E_le {C : CallF} (hC : LeC C) : ∀ u, (∀ a b c d e f, Le ((sorts_same_E C u) a b c d e f) (sorts_same_L1 false a b c d e f))
 | 0 => fun _ _ _ _ _ _ => Le.none _
 | u + 1 => by
  have h1 := sorts_same_E_le hC u
  exact by intros; refine lt ?_ sorts_same_L1_of; simp only [sorts_same_E]; unfold sorts_same_L1_b; with_reducible repeat' first | intro _ | exact Le.refl _ | exact hC .. | exact h1 .. | exact Le.callV hC | apply Le.bind | apply Le.ite
def sorts_same_e (C : CallF) (u : Nat) (args : List PV) (S0 : St) : Rs := match args with
 | [(.agg [a_Args]), (.agg [b_Args])] => sorts_same_b false C (sorts_same_E C u) S0 a_Args b_Args
 | _ => none
theorem sorts_same_e_le : LeE n_sorts_same sorts_same_e := by
 intro C hC u args S; unfold sorts_same_e; split
 · have h1 := sorts_same_E_le hC u; refine lt ?_ sorts_same_of; unfold sorts_same_b; with_reducible repeat' first | intro _ | exact Le.refl _ | exact hC .. | exact h1 .. | exact Le.callV hC | apply Le.bind | apply Le.ite
 · exact Le.none _
def internal_strconv_Itoa_e (C : CallF) (u : Nat) (args : List PV) (S0 : St) : Rs := match args with
 | [(.int .i64 i)] => internal_strconv_Itoa_b false C  S0 i
 | _ => none
theorem internal_strconv_Itoa_e_le : LeE n_internal_strconv_Itoa internal_strconv_Itoa_e := by
 intro C hC u args S; unfold internal_strconv_Itoa_e; split
 · refine lt ?_ internal_strconv_Itoa_of; unfold internal_strconv_Itoa_b; with_reducible repeat' first | intro _ | exact Le.refl _ | exact hC .. | exact Le.callV hC | apply Le.bind | apply Le.ite
 · exact Le.none _
def internal_strconv_FormatInt_E (C : CallF) : Nat → internal_strconv_FormatInt_J1_t × internal_strconv_FormatInt_J2_t
 | 0 => (fun _ _ _ _ _ => none, fun _ _ _ _ _ _ => none)
 | u + 1 => (internal_strconv_FormatInt_J1_b false C (internal_strconv_FormatInt_E C u).2, internal_strconv_FormatInt_J2_b false C )
theorem internal_strconv_FormatInt_E_le {C : CallF} (hC : LeC C) : ∀ u, (∀ a b c d e, Le ((internal_strconv_FormatInt_E C u).1 a b c d e) (internal_strconv_FormatInt_J1 false a b c d e)) ∧ (∀ a b c d e f, Le ((internal_strconv_FormatInt_E C u).2 a b c d e f) (internal_strconv_FormatInt_J2 false a b c d e f))
 | 0 => ⟨fun _ _ _ _ _ => Le.none _, fun _ _ _ _ _ _ => Le.none _⟩
 | u + 1 => by
  obtain ⟨h1, h2⟩ := internal_strconv_FormatInt_E_le hC u
  exact ⟨(by intros; refine lt ?_ internal_strconv_FormatInt_J1_of; simp only [internal_strconv_FormatInt_E]; unfold internal_strconv_FormatInt_J1_b; with_reducible repeat' first | intro _ | exact Le.refl _ | exact hC .. | exact h2 .. | exact Le.callV hC | apply Le.bind | apply Le.ite), (by intros; refine lt ?_ internal_strconv_FormatInt_J2_of; simp only [internal_strconv_FormatInt_E]; unfold internal_strconv_FormatInt_J2_b; with_reducible repeat' first | intro _ | exact Le.refl _ | exact hC .. | exact Le.callV hC | apply Le.bind | apply Le.ite)⟩
def internal_strconv_FormatInt_e (C : CallF) (u : Nat) (args : List PV) (S0 : St) : Rs := match args with
 | [(.int .i64 i), (.int .i64 base)] => internal_strconv_FormatInt_b false C (internal_strconv_FormatInt_E C u).1 S0 i base
 | _ => none
theorem internal_strconv_FormatInt_e_le : LeE n_internal_strconv_FormatInt internal_strconv_FormatInt_e := by
 intro C hC u args S; unfold internal_strconv_FormatInt_e; split
 · obtain ⟨h1, h2⟩ := internal_strconv_FormatInt_E_le hC u; refine lt ?_ internal_strconv_FormatInt_of; unfold internal_strconv_FormatInt_b; with_reducible repeat' first | intro _ | exact Le.refl _ | exact hC .. | exact h1 .. | exact Le.callV hC | apply Le.bind | apply Le.ite
 · exact Le.none _
def internal_strconv_small_e (C : CallF) (u : Nat) (args : List PV) (S0 : St) : Rs := match args with
 | [(.int .i64 i)] => internal_strconv_small_b false C  S0 i
 | _ => none
theorem internal_strconv_small_e_le : LeE n_internal_strconv_small internal_strconv_small_e := by
 intro C hC u args S; unfold internal_strconv_small_e; split
 · refine lt ?_ internal_strconv_small_of; unfold internal_strconv_small_b; with_reducible repeat' first | intro _ | exact Le.refl _ | exact hC .. | exact Le.callV hC | apply Le.bind | apply Le.ite
 · exact Le.none _
end
end Go.Proofs.YtjdknnlhhenpnaaGreatDoor
namespace Go.Proofs.YtjdknnlhhenpnaaGreatDoor
open Go Go.Abs
noncomputable section
def evT : Tb (CallF → Nat → List PV → St → Rs) := .n n_inter_Text inter_Text_e (.n n_term_Size term_Size_e (.n n_slices_ContainsFunc_of_api_Bind slices_ContainsFunc_of_api_Bind_e (.n n_vref03_Get vref03_Get_e (.n n_judge_States judge_States_e (.n n_judge_Check judge_Check_e (.n n_vlaw14_alive vlaw14_alive_e .l .l) (.n n_judge_Has judge_Has_e .l .l)) (.n n_vref02_Nodes vref02_Nodes_e (.n n_judge_Body judge_Body_e .l .l) .l)) (.n n_judge_Check_1 judge_Check_1_e (.n n_judge_Pair judge_Pair_e (.n n_vref09_Get vref09_Get_e .l .l) (.n n_slices_ContainsFunc_of_api_Sort slices_ContainsFunc_of_api_Sort_e .l .l)) (.n n_inter_CheckSet inter_CheckSet_e (.n n_sorts_Check sorts_Check_e .l .l) .l))) (.n n_judge_Judge_With judge_Judge_With_e (.n n_judge_sorted judge_sorted_e (.n n_judge_Bound judge_Bound_e (.n n_judge_Check_2 judge_Check_2_e .l .l) (.n n_vref01_Is vref01_Is_e .l .l)) (.n n_judge_New judge_New_e (.n n_inter_Check inter_Check_e .l .l) .l)) (.n n_vref09_Is vref09_Is_e (.n n_judge_Judge_Follows judge_Judge_Follows_e (.n n_judge_Judge_Has judge_Judge_Has_e .l .l) (.n n_vref01_Equal vref01_Equal_e .l .l)) (.n n_inter_Strong inter_Strong_e (.n n_inter_large inter_large_e .l .l) .l)))) (.n n_sorts_Size sorts_Size_e (.n n_vref09_reader_must vref09_reader_must_e (.n n_vref03_parseTerm vref03_parseTerm_e (.n n_inter_Order inter_Order_e (.n n_slices_ContainsFunc_of_api_Type slices_ContainsFunc_of_api_Type_e .l .l) (.n n_vref03_names vref03_names_e .l .l)) (.n n_vref03_Is vref03_Is_e (.n n_vref03_begins vref03_begins_e .l .l) .l)) (.n n_auto_Check auto_Check_e (.n n_vref09_reader_number vref09_reader_number_e (.n n_vref09_reader_is vref09_reader_is_e .l .l) (.n n_scheme_Ranks scheme_Ranks_e .l .l)) (.n n_slices_IndexFunc_of_api_Sort slices_IndexFunc_of_api_Sort_e (.n n_slices_Equal_of_int slices_Equal_of_int_e .l .l) .l))) (.n n_vref01_depth vref01_depth_e (.n n_inter_fit inter_fit_e (.n n_sorts_Check_1 sorts_Check_1_e (.n n_sorts_all sorts_all_e .l .l) (.n n_inter_place inter_place_e .l .l)) (.n n_vref01_Nodes vref01_Nodes_e (.n n_slices_IndexFunc_of_api_Bind slices_IndexFunc_of_api_Bind_e .l .l) .l)) (.n n_term_Place_Of term_Place_Of_e (.n n_scheme_Place scheme_Place_e (.n n_vref01_few vref01_few_e .l .l) .l) (.n n_judge_Judge_Add judge_Judge_Add_e (.n n_inter_fits inter_fits_e .l .l) .l))))) (.n n_auto_Lists auto_Lists_e (.n n_vref03_word vref03_word_e (.n n_inter_Size inter_Size_e (.n n_vref06_Ranks vref06_Ranks_e (.n n_vref02_Depth vref02_Depth_e (.n n_judge_Judge_has judge_Judge_has_e .l .l) (.n n_vref02_Of vref02_Of_e .l .l)) (.n n_vref09_Compare vref09_Compare_e (.n n_vref09_alternatives vref09_alternatives_e .l .l) .l)) (.n n_slices_CompareFunc_of_Lapi_Type slices_CompareFunc_of_Lapi_Type_e (.n n_term_measure term_measure_e (.n n_inter_Strong_1 inter_Strong_1_e .l .l) (.n n_slices_IndexFunc_of_api_Type slices_IndexFunc_of_api_Type_e .l .l)) (.n n_slices_CompareFunc_of_api_Type slices_CompareFunc_of_api_Type_e (.n n_inter_Order_1 inter_Order_1_e .l .l) .l))) (.n n_scheme_Check scheme_Check_e (.n n_vref03_parseHead vref03_parseHead_e (.n n_vref03_number vref03_number_e (.n n_vref02_Name vref02_Name_e .l .l) (.n n_vref01_Parse vref01_Parse_e .l .l)) (.n n_vref03_Place vref03_Place_e (.n n_vref02_Symbols vref02_Symbols_e .l .l) .l)) (.n n_auto_rising_of_api_Need auto_rising_of_api_Need_e (.n n_auto_Check_1 auto_Check_1_e (.n n_tree_Ranks tree_Ranks_e .l .l) (.n n_slices_ContainsFunc_of_api_Need slices_ContainsFunc_of_api_Need_e .l .l)) (.n n_auto_rising_of_Lapi_Need auto_rising_of_Lapi_Need_e (.n n_auto_Before auto_Before_e .l .l) .l)))) (.n n_term_Name term_Name_e (.n n_vref02_head vref02_head_e (.n n_judge_Judge_head judge_Judge_head_e (.n n_term_Place_sort term_Place_sort_e (.n n_sorts_measure sorts_measure_e .l .l) (.n n_inter_write inter_write_e .l .l)) (.n n_judge_Judge_met judge_Judge_met_e (.n n_judge_Judge_has_1 judge_Judge_has_1_e .l .l) .l)) (.n n_vref01_begins vref01_begins_e (.n n_vref09_Before vref09_Before_e (.n n_vref09_alternative vref09_alternative_e .l .l) (.n n_inter_measure inter_measure_e .l .l)) (.n n_term_Symbols term_Symbols_e (.n n_vref03_index vref03_index_e .l .l) .l))) (.n n_judge_Judge_head_1_1 judge_Judge_head_1_1_e (.n n_sorts_Same sorts_Same_e (.n n_slices_CompareFunc_of_api_Need slices_CompareFunc_of_api_Need_e (.n n_slices_IndexFunc_of_api_Need slices_IndexFunc_of_api_Need_e .l .l) (.n n_term_Place_head term_Place_head_e .l .l)) (.n n_judge_Judge_head_1 judge_Judge_head_1_e (.n n_strconv_Itoa strconv_Itoa_e .l .l) .l)) (.n n_internal_strconv_Itoa internal_strconv_Itoa_e (.n n_sorts_same sorts_same_e (.n n_judge_Judge_met_1 judge_Judge_met_1_e .l .l) .l) (.n n_internal_strconv_small internal_strconv_small_e (.n n_internal_strconv_FormatInt internal_strconv_FormatInt_e .l .l) .l)))))
theorem evT_le : evT.all (fun f e => LeE f e) := ⟨inter_Text_e_le, ⟨term_Size_e_le, ⟨slices_ContainsFunc_of_api_Bind_e_le, ⟨vref03_Get_e_le, ⟨judge_States_e_le, ⟨judge_Check_e_le, ⟨vlaw14_alive_e_le, trivial, trivial⟩, ⟨judge_Has_e_le, trivial, trivial⟩⟩, ⟨vref02_Nodes_e_le, ⟨judge_Body_e_le, trivial, trivial⟩, trivial⟩⟩, ⟨judge_Check_1_e_le, ⟨judge_Pair_e_le, ⟨vref09_Get_e_le, trivial, trivial⟩, ⟨slices_ContainsFunc_of_api_Sort_e_le, trivial, trivial⟩⟩, ⟨inter_CheckSet_e_le, ⟨sorts_Check_e_le, trivial, trivial⟩, trivial⟩⟩⟩, ⟨judge_Judge_With_e_le, ⟨judge_sorted_e_le, ⟨judge_Bound_e_le, ⟨judge_Check_2_e_le, trivial, trivial⟩, ⟨vref01_Is_e_le, trivial, trivial⟩⟩, ⟨judge_New_e_le, ⟨inter_Check_e_le, trivial, trivial⟩, trivial⟩⟩, ⟨vref09_Is_e_le, ⟨judge_Judge_Follows_e_le, ⟨judge_Judge_Has_e_le, trivial, trivial⟩, ⟨vref01_Equal_e_le, trivial, trivial⟩⟩, ⟨inter_Strong_e_le, ⟨inter_large_e_le, trivial, trivial⟩, trivial⟩⟩⟩⟩, ⟨sorts_Size_e_le, ⟨vref09_reader_must_e_le, ⟨vref03_parseTerm_e_le, ⟨inter_Order_e_le, ⟨slices_ContainsFunc_of_api_Type_e_le, trivial, trivial⟩, ⟨vref03_names_e_le, trivial, trivial⟩⟩, ⟨vref03_Is_e_le, ⟨vref03_begins_e_le, trivial, trivial⟩, trivial⟩⟩, ⟨auto_Check_e_le, ⟨vref09_reader_number_e_le, ⟨vref09_reader_is_e_le, trivial, trivial⟩, ⟨scheme_Ranks_e_le, trivial, trivial⟩⟩, ⟨slices_IndexFunc_of_api_Sort_e_le, ⟨slices_Equal_of_int_e_le, trivial, trivial⟩, trivial⟩⟩⟩, ⟨vref01_depth_e_le, ⟨inter_fit_e_le, ⟨sorts_Check_1_e_le, ⟨sorts_all_e_le, trivial, trivial⟩, ⟨inter_place_e_le, trivial, trivial⟩⟩, ⟨vref01_Nodes_e_le, ⟨slices_IndexFunc_of_api_Bind_e_le, trivial, trivial⟩, trivial⟩⟩, ⟨term_Place_Of_e_le, ⟨scheme_Place_e_le, ⟨vref01_few_e_le, trivial, trivial⟩, trivial⟩, ⟨judge_Judge_Add_e_le, ⟨inter_fits_e_le, trivial, trivial⟩, trivial⟩⟩⟩⟩⟩, ⟨auto_Lists_e_le, ⟨vref03_word_e_le, ⟨inter_Size_e_le, ⟨vref06_Ranks_e_le, ⟨vref02_Depth_e_le, ⟨judge_Judge_has_e_le, trivial, trivial⟩, ⟨vref02_Of_e_le, trivial, trivial⟩⟩, ⟨vref09_Compare_e_le, ⟨vref09_alternatives_e_le, trivial, trivial⟩, trivial⟩⟩, ⟨slices_CompareFunc_of_Lapi_Type_e_le, ⟨term_measure_e_le, ⟨inter_Strong_1_e_le, trivial, trivial⟩, ⟨slices_IndexFunc_of_api_Type_e_le, trivial, trivial⟩⟩, ⟨slices_CompareFunc_of_api_Type_e_le, ⟨inter_Order_1_e_le, trivial, trivial⟩, trivial⟩⟩⟩, ⟨scheme_Check_e_le, ⟨vref03_parseHead_e_le, ⟨vref03_number_e_le, ⟨vref02_Name_e_le, trivial, trivial⟩, ⟨vref01_Parse_e_le, trivial, trivial⟩⟩, ⟨vref03_Place_e_le, ⟨vref02_Symbols_e_le, trivial, trivial⟩, trivial⟩⟩, ⟨auto_rising_of_api_Need_e_le, ⟨auto_Check_1_e_le, ⟨tree_Ranks_e_le, trivial, trivial⟩, ⟨slices_ContainsFunc_of_api_Need_e_le, trivial, trivial⟩⟩, ⟨auto_rising_of_Lapi_Need_e_le, ⟨auto_Before_e_le, trivial, trivial⟩, trivial⟩⟩⟩⟩, ⟨term_Name_e_le, ⟨vref02_head_e_le, ⟨judge_Judge_head_e_le, ⟨term_Place_sort_e_le, ⟨sorts_measure_e_le, trivial, trivial⟩, ⟨inter_write_e_le, trivial, trivial⟩⟩, ⟨judge_Judge_met_e_le, ⟨judge_Judge_has_1_e_le, trivial, trivial⟩, trivial⟩⟩, ⟨vref01_begins_e_le, ⟨vref09_Before_e_le, ⟨vref09_alternative_e_le, trivial, trivial⟩, ⟨inter_measure_e_le, trivial, trivial⟩⟩, ⟨term_Symbols_e_le, ⟨vref03_index_e_le, trivial, trivial⟩, trivial⟩⟩⟩, ⟨judge_Judge_head_1_1_e_le, ⟨sorts_Same_e_le, ⟨slices_CompareFunc_of_api_Need_e_le, ⟨slices_IndexFunc_of_api_Need_e_le, trivial, trivial⟩, ⟨term_Place_head_e_le, trivial, trivial⟩⟩, ⟨judge_Judge_head_1_e_le, ⟨strconv_Itoa_e_le, trivial, trivial⟩, trivial⟩⟩, ⟨internal_strconv_Itoa_e_le, ⟨sorts_same_e_le, ⟨judge_Judge_met_1_e_le, trivial, trivial⟩, trivial⟩, ⟨internal_strconv_small_e_le, ⟨internal_strconv_FormatInt_e_le, trivial, trivial⟩, trivial⟩⟩⟩⟩⟩⟩
def evD (m : Nat) (C : CallF) (f : FuncId) (args : List PV) (S : St) : Rs := match extT false f with
 | some h => h args S
 | none => match evT.look f with
  | some e => e C m args S
  | none => none
def ev (m : Nat) : Nat → CallF
 | 0 => fun _ _ _ => none
 | n + 1 => evD m (ev m n)
theorem evD_le {m : Nat} {C : CallF} (hC : LeC C) (f : FuncId) (args : List PV) (S : St) : Le (evD m C f args S) (R false f args S) := by
  unfold evD
  cases hx : extT false f with
  | some h => exact fun r hr => (Run_ext hx).trans hr
  | none =>
    dsimp only
    cases he : evT.look f with
    | none => exact Le.none _
    | some e => exact Tb.of_look evT_le he hC m args S
theorem ev_le (m : Nat) : ∀ n f args S, Le (ev m n f args S) (R false f args S)
  | 0, _, _, _ => Le.none _
  | n + 1, f, args, S => evD_le (ev_le m n) f args S
end
end Go.Proofs.YtjdknnlhhenpnaaGreatDoor
namespace Go.Proofs.YtjdknnlhhenpnaaGreatDoor
open Go Go.Abs
namespace Bld
theorem setCell_other {w : World} {b k o : Nat} {x : Value} (h : k ≠ b) : (w.setCell ⟨b, o, none⟩ x).heap[k]? = w.heap[k]? := by
  simp only [World.setCell, Array.getElem?_modify]
  rw [if_neg (fun e => h e.symm)]
theorem sizeB : (Tryz.prog.info? 213).map (fun j => j.size) = some 2 := by kernel_rfl
theorem liesB : liesAt Tryz.prog Tryz.prog.depth 213 (2 / Tryz.prog.cellsOf 213) 0 213 1 = true := by kernel_rfl
theorem infoByte : (Tryz.prog.info? 5).map (fun i => (i.zero, i.size, i.bytes)) = some (some (.int .u8 0), 1, 1) := by kernel_rfl
theorem cellsByte : Tryz.prog.cellsOf 5 = 1 := by kernel_rfl
set_option maxHeartbeats 1000000 in
set_option maxRecDepth 100000 in
theorem copyCheck_used (b : Nat) (w : World) (h0 : w.cell? ⟨b, 0, none⟩ = some (.pointer (some ⟨b, 0, none⟩))) :
    Calls Tryz.prog 197 #[.pointer (some ⟨b, 0, none⟩)] w fun e w' => e = .returned (.tuple #[]) ∧ w' = w := by
  obtain ⟨j, hj, _⟩ := Option.map_eq_some_iff.1 sizeB
  go_enter Tryz.func197, Tryz.ntmps197
  go_wp2
  rw [Lib.run_neq_ptr_same w _ Tryz.underlying210 hj]
  go_wp2
  go_end0
  exact ⟨rfl, rfl⟩
set_option maxHeartbeats 1000000 in
set_option maxRecDepth 100000 in
theorem copyCheck_fresh (b : Nat) (w : World) (h0 : w.cell? ⟨b, 0, none⟩ = some (.pointer none)) (hsh : w.shape? b = some (213, 2)) (hfz : w.frozen? ⟨b, 0, none⟩ = false) :
    Calls Tryz.prog 197 #[.pointer (some ⟨b, 0, none⟩)] w fun e w' => e = .returned (.tuple #[]) ∧ w' = w.setCell ⟨b, 0, none⟩ (.pointer (some ⟨b, 0, none⟩)) := by
  obtain ⟨j, hj, hjs⟩ := Option.map_eq_some_iff.1 sizeB
  go_enter Tryz.func197, Tryz.ntmps197
  go_wp2
  rw [Lib.run_to_unsafe w ⟨b, 0, none⟩ Tryz.underlying210 Tryz.underlying253 hj (by rw [hjs]; decide) hsh (Nat.zero_lt_succ 1)]
  simp only [Result.andThen]
  rw [Oper.upon_value]
  go_wp2
  rw [run_callFunc_extern Tryz.func201 (by kernel_rfl) (by kernel_rfl) (by kernel_rfl) (e := Extern.AbiNoEscape.same) (by kernel_rfl)]
  rw [Lib.run_noEscape]
  simp only [Result.andThen]
  rw [Oper.upon_value]
  go_wp2
  rw [Lib.run_from_unsafe w ⟨b, 0, none⟩ Tryz.underlying253 Tryz.underlying210 hj hsh liesB]
  simp only [Result.andThen]
  rw [Oper.upon_value]
  go_wp2
  go_end0
  exact ⟨rfl, rfl⟩
theorem copyCheck {b : Nat} {w : World} {p v : Value} (hb : w.heap[b]? = some (.cells #[p, v] 213 (0, 0))) (hp : p = .pointer none ∨ p = .pointer (some ⟨b, 0, none⟩)) :
    Calls Tryz.prog 197 #[.pointer (some ⟨b, 0, none⟩)] w fun e w' => e = .returned (.tuple #[]) ∧ w'.heap[b]? = some (.cells #[.pointer (some ⟨b, 0, none⟩), v] 213 (0, 0)) ∧ w'.os = w.os ∧ w'.tape = w.tape ∧ w'.output = w.output ∧
      w'.heap.size = w.heap.size ∧ ∀ k, k ≠ b → w'.heap[k]? = w.heap[k]? := by
  have h0 : w.cell? ⟨b, 0, none⟩ = some p := by rw [Lib.cell_of_heap hb]; rfl
  rcases hp with rfl | rfl
  · refine (copyCheck_fresh b w h0 (by simp [World.shape?, hb]) (Lib.frozen_of_heap hb 0)).mono ?_
    rintro e w' ⟨rfl, rfl⟩
    refine ⟨rfl, ?_, rfl, rfl, rfl, by simp [World.setCell], fun k hk => setCell_other hk⟩
    simp [World.setCell, Array.getElem?_modify, hb]
  · refine (copyCheck_used b w h0).mono ?_
    rintro e w' ⟨rfl, rfl⟩
    exact ⟨rfl, hb, rfl, rfl, rfl, rfl, fun _ _ => rfl⟩
theorem rowOld {w w' : World} {b : Nat} {v : Value} {l : List UInt8} (h : RowOf w 5 v l) (hne : v.ownBlock ≠ some b) (hs : ∀ k, k ≠ b → w'.heap[k]? = w.heap[k]?) : RowOf w' 5 v l := by
  rcases h with h | ⟨b2, cap, cur, rfl, hb, r⟩
  · exact .inl h
  · exact .inr ⟨b2, cap, cur, rfl, (hs b2 (fun e => hne (by simp [Value.ownBlock, e]))).trans hb, r⟩
theorem rowLt {w : World} {v : Value} {l : List UInt8} (h : RowOf w 5 v l) (k : Nat) (hk : v.ownBlock = some k) : k < w.heap.size := by
  rcases h with ⟨rfl, _⟩ | ⟨b2, cap, cur, rfl, hb2, _⟩
  · cases hk
  · simp only [Value.ownBlock, Option.some.injEq] at hk
    subst hk
    exact (Array.getElem?_eq_some_iff.1 hb2).1
theorem stored {b : Nat} {w1 w2 w3 : World} {v v' : Value} {l' : List UInt8} (hb1 : w1.heap[b]? = some (.cells #[.pointer (some ⟨b, 0, none⟩), v] 213 (0, 0))) (hne : v.ownBlock ≠ some b) (hos : w2.os = w1.os) (htp : w2.tape = w1.tape) (hou : w2.output = w1.output)
    (hsz : w1.heap.size ≤ w2.heap.size) (old2 : ∀ k, k < w1.heap.size → w2.heap[k]? = w1.heap[k]?)
    (hat : RowAt w2 w3 5 v v' l') (k1 : w3.os = w2.os) (k2 : w3.tape = w2.tape) (k3 : w3.output = w2.output) (k4 : w2.heap.size ≤ w3.heap.size) (k5 : ∀ k, k < w2.heap.size → v.ownBlock ≠ some k → w3.heap[k]? = w2.heap[k]?) :
    w3.heap[b]? = some (.cells #[.pointer (some ⟨b, 0, none⟩), v] 213 (0, 0)) ∧ BldTr b v w1 (w3.setCell ⟨b, 1, none⟩ v') ∧ (w3.setCell ⟨b, 1, none⟩ v').heap[b]? = some (.cells #[.pointer (some ⟨b, 0, none⟩), v'] 213 (0, 0)) ∧ RowAt w1 (w3.setCell ⟨b, 1, none⟩ v') 5 v v' l' := by
  have hlt1 : b < w1.heap.size := (Array.getElem?_eq_some_iff.1 hb1).1
  have hb3 : w3.heap[b]? = some (.cells #[.pointer (some ⟨b, 0, none⟩), v] 213 (0, 0)) := by
    rw [k5 b (by omega) hne, old2 b hlt1]; exact hb1
  refine ⟨hb3, ⟨k1.trans hos, k2.trans htp, k3.trans hou, by simp only [World.setCell, Array.size_modify]; omega, fun k hk hkb hkv => ?_⟩, ?_, ?_⟩
  · rw [setCell_other hkb, k5 k (by omega) hkv, old2 k hk]
  · simp [World.setCell, Array.getElem?_modify, hb3]
  · rcases hat with h | ⟨b2, cap', cur, r1, r2, r3, r4⟩
    · exact .inl h
    · have hb2 : b2 ≠ b := by
        rintro rfl
        rcases r2 with r2 | r2
        · exact hne r2
        · omega
      refine .inr ⟨b2, cap', cur, r1, ?_, by rw [setCell_other hb2]; exact r3, r4⟩
      rcases r2 with r2 | r2
      · exact .inl r2
      · exact .inr (by omega)
theorem sliceOf {w w' : World} {v v' : Value} {l : List UInt8} (h : RowAt w w' 5 v v' l) : ∃ g n c, v' = .slice g n c := by
  rcases h with ⟨hv, _⟩ | ⟨g, cap, cur, hv, _⟩
  · exact ⟨_, _, _, hv⟩
  · exact ⟨_, _, _, hv⟩
theorem btr {b : Nat} {v : Value} {w w1 w' : World} (h1 : w1.os = w.os) (h2 : w1.tape = w.tape) (h3 : w1.output = w.output) (h4 : w1.heap.size = w.heap.size) (h5 : ∀ k, k ≠ b → w1.heap[k]? = w.heap[k]?) (h : BldTr b v w1 w') : BldTr b v w w' :=
  ⟨h.os.trans h1, h.tape.trans h2, h.output.trans h3, by rw [← h4]; exact h.size, fun k hk hkb hkv => (h.old k (by rw [h4]; exact hk) hkb hkv).trans (h5 k hkb)⟩
theorem rowAtW {w w1 w' : World} {v v' : Value} {l : List UInt8} (h4 : w1.heap.size = w.heap.size) (h : RowAt w1 w' 5 v v' l) : RowAt w w' 5 v v' l := by
  rcases h with h | ⟨b2, cap', cur, r1, r2, r3⟩
  · exact .inl h
  · exact .inr ⟨b2, cap', cur, r1, by rw [← h4]; exact r2, r3⟩
theorem wb_append {b : Nat} {w1 : World} {v : Value} {l : List UInt8} (x : UInt8) (hb1 : w1.heap[b]? = some (.cells #[.pointer (some ⟨b, 0, none⟩), v] 213 (0, 0))) (hne : v.ownBlock ≠ some b) (hrow1 : RowOf w1 5 v l) (hlen : l.length + 1 ≤ room) :
    ∃ v' w3, (Builtin.append_ #[211, 211] 211 #[v, .slice (some ⟨w1.heap.size, 0, none⟩) 1 1]).run Tryz.prog (w1.alloc (.cells #[.int .u8 x.toNat] 5)) = .ok v' w3 ∧ (∃ g n c, v' = .slice g n c) ∧
      w3.heap[b]? = some (.cells #[.pointer (some ⟨b, 0, none⟩), v] 213 (0, 0)) ∧ BldTr b v w1 (w3.setCell ⟨b, 1, none⟩ v') ∧ (w3.setCell ⟨b, 1, none⟩ v').heap[b]? = some (.cells #[.pointer (some ⟨b, 0, none⟩), v'] 213 (0, 0)) ∧ RowAt w1 (w3.setCell ⟨b, 1, none⟩ v') 5 v v' (l ++ [x]) := by
  obtain ⟨i0, hi, hz0, hz1, hz2⟩ := info_parts infoByte
  have old2 : ∀ k, k < w1.heap.size → (w1.alloc (.cells #[.int .u8 x.toNat] 5)).heap[k]? = w1.heap[k]? := fun k hk => Lib.alloc_old w1 _ k hk
  generalize hw2 : w1.alloc (.cells #[.int .u8 x.toNat] 5) = w2 at *
  have hnew : w2.heap[w1.heap.size]? = some (.cells #[.int .u8 x.toNat] 5 (0, 0)) := by rw [← hw2]; exact heap_alloc_new w1 _
  have hsz2 : w2.heap.size = w1.heap.size + 1 := by rw [← hw2]; simp
  have hrow2 : RowOf w2 5 v l := by
    have hlt := rowLt hrow1
    rcases hrow1 with h | ⟨b2, cap, cur, rfl, hb2, r⟩
    · exact .inl h
    · exact .inr ⟨b2, cap, cur, rfl, (old2 b2 (hlt b2 rfl)).trans hb2, r⟩
  have hnews : ∀ (j : Nat) (u : Value), [Value.int .u8 x.toNat][j]? = some u → w2.cell? ((⟨w1.heap.size, 0, none⟩ : Addr).add j) = some u := by
    intro j u hj
    match j, hj with
    | 0, hj =>
      simp at hj; subst hj
      show w2.cell? ⟨w1.heap.size, 0, none⟩ = _
      rw [Lib.cell_of_heap hnew]; rfl
  obtain ⟨v', w3, hr, hat, k1, k2, k3, k4, k5⟩ := row_write (P := Tryz.prog) (w := w2) (t := 211) (u := 211) (e := 5) (ty := 211) (i := i0) (z := .int .u8 0) hz0 rfl hrow2 (news := [x]) (by simp) hlen (yv := .slice (some ⟨w1.heap.size, 0, none⟩) 1 1)
    (fun b' cur cap n hb' hr hf => by
      have := append_room (P := Tryz.prog) (ty := 211) Tryz.underlying211 hi hb' (news := [.int .u8 x.toNat]) (m := 1) (c := 1) (by rw [hz1]; rfl) hnews (by simp [Value.oneCell']) hr (by rw [hz1]; simpa using hf)
      rw [hz1] at this
      simpa using this)
    (fun ad cap n vals hl hc hlt hrm => by
      have hl1 : ([x] : List UInt8).length = 1 := rfl
      rw [hl1] at hlt hrm ⊢
      exact run_append_grow (P := Tryz.prog) w2 211 211 5 i0 (.int .u8 0) Tryz.underlying211 hi hz0 ad n cap vals (by rw [hz1]; omega) hc ⟨w1.heap.size, 0, none⟩ 1 1 [.int .u8 x.toNat] (by rw [hz1]; rfl) hnews hlt (by unfold room at hrm; omega) (growslice_fits (by omega) (by rw [hz2]; unfold room at hrm; omega)))
    (fun _ => run_append_nil (P := Tryz.prog) w2 211 211 5 i0 (.int .u8 0) Tryz.underlying211 hi hz0 ⟨w1.heap.size, 0, none⟩ 1 1 [.int .u8 x.toNat] (by rw [hz1]; rfl) hnews (by omega) (by omega) (by rw [hz2]; omega))
  have hst := stored (w1 := w1) (w2 := w2) hb1 hne (by rw [← hw2]; rfl) (by rw [← hw2]; rfl) (by rw [← hw2]; rfl) (by omega) old2 hat k1 k2 k3 k4 k5
  exact ⟨v', w3, hr, sliceOf hat, hst⟩
theorem ws_append {b : Nat} {w1 : World} {v : Value} {l : List UInt8} (s : ByteArray) (hb1 : w1.heap[b]? = some (.cells #[.pointer (some ⟨b, 0, none⟩), v] 213 (0, 0))) (hne : v.ownBlock ≠ some b) (hrow1 : RowOf w1 5 v l) (hlen : l.length + s.size ≤ room) :
    ∃ v' w3, (Builtin.append_ #[211, 9] 211 #[v, .string s]).run Tryz.prog w1 = .ok v' w3 ∧ (∃ g n c, v' = .slice g n c) ∧
      w3.heap[b]? = some (.cells #[.pointer (some ⟨b, 0, none⟩), v] 213 (0, 0)) ∧ BldTr b v w1 (w3.setCell ⟨b, 1, none⟩ v') ∧ (w3.setCell ⟨b, 1, none⟩ v').heap[b]? = some (.cells #[.pointer (some ⟨b, 0, none⟩), v'] 213 (0, 0)) ∧ RowAt w1 (w3.setCell ⟨b, 1, none⟩ v') 5 v v' (l ++ s.data.toList) := by
  obtain ⟨i0, hi, hz0, hz1, hz2⟩ := info_parts infoByte
  have hsl : s.data.toList.length = s.size := by rw [Array.length_toList]; rfl
  by_cases h0 : s.size = 0
  · have hnil : s.data.toList = [] := List.eq_nil_of_length_eq_zero (by omega)
    have hrun : ∀ base n c, n ≤ c → (Builtin.append_ #[211, 9] 211 #[.slice base n c, .string s]).run Tryz.prog w1 = .ok (.slice base n c) w1 := fun base n c hc => append_nothing_str Tryz.underlying211 Tryz.underlying9 hi hc h0
    have hat : RowAt w1 w1 5 v v (l ++ s.data.toList) := by
      rw [hnil, List.append_nil]
      rcases hrow1 with h | ⟨b2, cap, cur, rfl, r⟩
      · exact .inl h
      · exact .inr ⟨b2, cap, cur, rfl, .inl rfl, r⟩
    have hst := stored (w1 := w1) (w2 := w1) (w3 := w1) hb1 hne rfl rfl rfl (Nat.le_refl _) (fun _ _ => rfl) hat rfl rfl rfl (Nat.le_refl _) (fun _ _ _ => rfl)
    rcases hrow1 with ⟨rfl, _⟩ | ⟨b2, cap, cur, rfl, _, _, hle, _⟩
    · exact ⟨_, w1, hrun _ _ _ (Nat.le_refl _), ⟨_, _, _, rfl⟩, hst⟩
    · exact ⟨_, w1, hrun _ _ _ hle, ⟨_, _, _, rfl⟩, hst⟩
  · have hcells : (s.data.toList.map fun y : UInt8 => Value.int .u8 y.toNat) = Lib.strCells s := rfl
    obtain ⟨v', w3, hr, hat, k1, k2, k3, k4, k5⟩ := row_write (P := Tryz.prog) (w := w1) (t := 211) (u := 9) (e := 5) (ty := 211) (i := i0) (z := .int .u8 0) hz0 rfl hrow1 (news := s.data.toList) (by intro e; rw [e] at hsl; simp at hsl; omega) (by omega) (yv := .string s)
      (fun b' cur cap n hb' hr hf => by
        rw [hsl] at hr hf ⊢
        rw [hcells]
        exact append_room_str (P := Tryz.prog) (ty := 211) Tryz.underlying211 Tryz.underlying9 hi hz1 hb' hr hf)
      (fun ad cap n vals hl hc hlt hrm => by
        rw [hsl] at hlt hrm ⊢
        rw [hcells]
        exact Lib.run_append_grow_string (P := Tryz.prog) w1 211 9 211 5 i0 (.int .u8 0) Tryz.underlying211 Tryz.underlying9 hi hz0 ad n cap vals (by rw [hz1]; omega) hc s hlt (by unfold room at hrm; omega) (growslice_fits (by omega) (by rw [hz2]; unfold room at hrm; omega)))
      (fun hrm => by
        rw [hsl] at hrm ⊢
        have := run_append_nil_string (P := Tryz.prog) w1 211 9 211 5 i0 (.int .u8 0) Tryz.underlying211 Tryz.underlying9 hi hz0 s (by omega) (by unfold room at hrm; omega) (by rw [hz2]; unfold room at hrm; omega)
        have e1 : (s.data.map fun b => Value.int .u8 b.toNat) = (s.data.toList.map fun y : UInt8 => Value.int .u8 y.toNat).toArray := by
          apply Array.ext'
          simp
        rw [e1] at this
        exact this)
    exact ⟨v', w3, hr, sliceOf hat, stored (w1 := w1) (w2 := w1) hb1 hne rfl rfl rfl (Nat.le_refl _) (fun _ _ => rfl) hat k1 k2 k3 k4 k5⟩
end Bld
end Go.Proofs.YtjdknnlhhenpnaaGreatDoor
namespace Go.Proofs.YtjdknnlhhenpnaaGreatDoor.Bld
open Go Go.Abs
set_option maxHeartbeats 400000 in
set_option maxRecDepth 100000 in
theorem writeByte {b : Nat} {w : World} {p v : Value} {l : List UInt8} (x : UInt8) (hb : w.heap[b]? = some (.cells #[p, v] 213 (0, 0))) (hp : p = .pointer none ∨ p = .pointer (some ⟨b, 0, none⟩)) (hne : v.ownBlock ≠ some b) (hrow : RowOf w 5 v l) (hlen : l.length + 1 ≤ room) :
    Calls Tryz.prog 182 #[.pointer (some ⟨b, 0, none⟩), .int .u8 x.toNat] w fun e w' => e = .returned .nilIface ∧ BldTr b v w w' ∧ ∃ v', w'.heap[b]? = some (.cells #[.pointer (some ⟨b, 0, none⟩), v'] 213 (0, 0)) ∧ RowAt w w' 5 v v' (l ++ [x]) := by
  go_enter Tryz.func182, Tryz.ntmps182
  go_wp2_with (go_at_call 197; refine (copyCheck hb hp).mono ?_)
  rintro e w1 ⟨rfl, hb1, h1, h2, h3, h4, h5⟩
  obtain ⟨v', w3, hr, ⟨g, n', cap, rfl⟩, hb3, htr, hb4, hat⟩ := wb_append x hb1 hne (rowOld hrow hne h5) hlen
  have c1 : w1.cell? ⟨b, 1, none⟩ = some v := by rw [Lib.cell_of_heap hb1]; rfl
  have d1 : w3.cell? ⟨b, 1, none⟩ = some v := by rw [Lib.cell_of_heap hb3]; rfl
  have f1 : w3.frozen? ⟨b, 1, none⟩ = false := Lib.frozen_of_heap hb3 1
  have fin := (⟨btr h1 h2 h3 h4 h5 htr, _, hb4, rowAtW h4 hat⟩ : BldTr b v w (w3.setCell ⟨b, 1, none⟩ (.slice g n' cap)) ∧ ∃ v', (w3.setCell ⟨b, 1, none⟩ (.slice g n' cap)).heap[b]? = some (.cells #[.pointer (some ⟨b, 0, none⟩), v'] 213 (0, 0)) ∧ RowAt w (w3.setCell ⟨b, 1, none⟩ (.slice g n' cap)) 5 v v' (l ++ [x]))
  clear hb hp hne hrow hlen hb1 h1 h2 h3 h4 h5 htr hb4 hat hb3
  go_wp2_with (at_builtin; refine wpList_append_run rfl (.tmp 11) (.tmp 13) 211 211 rfl v (.slice (some ⟨w1.heap.size, 0, none⟩) 1 1) ?hs ?hx hr ?_)
  case hs => rfl
  case hx => rfl
  clear hr c1
  go_wp2
  go_ret
  exact ⟨rfl, fin⟩
set_option maxHeartbeats 400000 in
set_option maxRecDepth 100000 in
theorem writeString {b : Nat} {w : World} {p v : Value} {l : List UInt8} (s : ByteArray) (hb : w.heap[b]? = some (.cells #[p, v] 213 (0, 0))) (hp : p = .pointer none ∨ p = .pointer (some ⟨b, 0, none⟩)) (hne : v.ownBlock ≠ some b) (hrow : RowOf w 5 v l) (hlen : l.length + s.size ≤ room) :
    Calls Tryz.prog 183 #[.pointer (some ⟨b, 0, none⟩), .string s] w fun e w' => e = .returned (.tuple #[.int .i64 s.size, .nilIface]) ∧ BldTr b v w w' ∧ ∃ v', w'.heap[b]? = some (.cells #[.pointer (some ⟨b, 0, none⟩), v'] 213 (0, 0)) ∧ RowAt w w' 5 v v' (l ++ s.data.toList) := by
  go_enter Tryz.func183, Tryz.ntmps183
  go_wp2_with (go_at_call 197; refine (copyCheck hb hp).mono ?_)
  rintro e w1 ⟨rfl, hb1, h1, h2, h3, h4, h5⟩
  obtain ⟨v', w3, hr, ⟨g, n', cap, rfl⟩, hb3, htr, hb4, hat⟩ := ws_append s hb1 hne (rowOld hrow hne h5) hlen
  have c1 : w1.cell? ⟨b, 1, none⟩ = some v := by rw [Lib.cell_of_heap hb1]; rfl
  have d1 : w3.cell? ⟨b, 1, none⟩ = some v := by rw [Lib.cell_of_heap hb3]; rfl
  have f1 : w3.frozen? ⟨b, 1, none⟩ = false := Lib.frozen_of_heap hb3 1
  have fin := (⟨btr h1 h2 h3 h4 h5 htr, _, hb4, rowAtW h4 hat⟩ : BldTr b v w (w3.setCell ⟨b, 1, none⟩ (.slice g n' cap)) ∧ ∃ v', (w3.setCell ⟨b, 1, none⟩ (.slice g n' cap)).heap[b]? = some (.cells #[.pointer (some ⟨b, 0, none⟩), v'] 213 (0, 0)) ∧ RowAt w (w3.setCell ⟨b, 1, none⟩ (.slice g n' cap)) 5 v v' (l ++ s.data.toList))
  clear hb hp hne hrow hlen hb1 h1 h2 h3 h4 h5 htr hb4 hat hb3
  go_wp2_with (at_builtin; refine wpList_append_run rfl _ _ 211 9 rfl v (.string s) ?hs ?hx hr ?_)
  case hs => rfl
  case hx => rfl
  clear hr c1
  go_wp2
  go_ret2
  exact ⟨rfl, fin⟩
set_option maxHeartbeats 1000000 in
set_option maxRecDepth 100000 in
theorem string_nil {b : Nat} {w : World} {p : Value} (hb : w.heap[b]? = some (.cells #[p, .slice none 0 0] 213 (0, 0))) :
    Calls Tryz.prog 153 #[.pointer (some ⟨b, 0, none⟩)] w fun e w' => e = .returned (.string ⟨#[]⟩) ∧ BldTr b (.slice none 0 0) w w' := by
  have hUS : ∀ W : World, ∀ q : Option Addr, (Builtin.unsafeString_ #[245, 3] 9 #[.pointer q, .int .i64 0]).run Tryz.prog W = .ok (.string .empty) W := fun W q => Lib.run_unsafeString_none W _ _ _ q
  have c1 : w.drew.cell? ⟨b, 1, none⟩ = some (.slice none 0 0) := by
    have : w.drew.heap[b]? = some (.cells #[p, .slice none 0 0] 213 (0, 0)) := hb
    rw [Lib.cell_of_heap this]; rfl
  have hSD : (Builtin.unsafeSliceData_ #[211] 245 #[.slice none 0 0]).run Tryz.prog w.drew = .ok (.pointer none) w.drew := rfl
  have fin : BldTr b (.slice none 0 0) w w.drew := ⟨rfl, rfl, rfl, Nat.le_refl _, fun _ _ _ _ => rfl⟩
  clear hb
  go_enter Tryz.func153, Tryz.ntmps153
  go_wp2
  go_region
  all_goals (go_wp2; go_ret; exact ⟨rfl, fin⟩)
set_option maxHeartbeats 1000000 in
set_option maxRecDepth 100000 in
theorem string_row {b g cap : Nat} {w : World} {p : Value} {l : List UInt8} {cur : Array Value} (hb : w.heap[b]? = some (.cells #[p, .slice (some ⟨g, 0, none⟩) l.length cap] 213 (0, 0))) (hg : w.heap[g]? = some (.cells cur 5 (0, 0)))
    (h0 : l ≠ []) (hle : l.length ≤ cap) (hmax : cap ≤ maxLen) (hsz : cur.size = cap) (htake : cur.toList.take l.length = l.map fun x => Value.int .u8 x.toNat) :
    Calls Tryz.prog 153 #[.pointer (some ⟨b, 0, none⟩)] w fun e w' => e = .returned (.string ⟨l.toArray⟩) ∧ BldTr b (.slice (some ⟨g, 0, none⟩) l.length cap) w w' := by
  have hl0 : l.length ≠ 0 := by simpa using h0
  have c1 : w.drew.cell? ⟨b, 1, none⟩ = some (.slice (some ⟨g, 0, none⟩) l.length cap) := by
    have : w.drew.heap[b]? = some (.cells #[p, .slice (some ⟨g, 0, none⟩) l.length cap] 213 (0, 0)) := hb
    rw [Lib.cell_of_heap this]; rfl
  have hSD : (Builtin.unsafeSliceData_ #[211] 245 #[.slice (some ⟨g, 0, none⟩) l.length cap]).run Tryz.prog w.drew = .ok (.pointer (some ⟨g, 0, none⟩)) w.drew :=
    Lib.run_unsafeSliceData_row _ _ _ _ _ _ (by omega)
  have hUS : (Builtin.unsafeString_ #[245, 3] 9 #[.pointer (some ⟨g, 0, none⟩), .int .i64 l.length]).run Tryz.prog w.drew = .ok (.string ⟨l.toArray⟩) (w.drew.freeze ⟨g, 0, none⟩ l.length) := by
    refine Lib.run_unsafeString_row w.drew 245 3 9 5 Tryz.underlying245 cellsByte g cur.size (by have hg' : w.drew.heap[g]? = some (.cells cur 5 (0, 0)) := hg; simp [World.shape?, hg']) l h0 (by omega) (by unfold maxLen at hmax; omega) ?_
    intro j x hx
    have hg' : w.drew.heap[g]? = some (.cells cur 5 (0, 0)) := hg
    have hj := (List.getElem?_eq_some_iff.1 hx).1
    show w.drew.cell? ((⟨g, 0, none⟩ : Addr).add j) = _
    rw [addr_add, Nat.zero_add, Lib.cell_of_heap hg']
    have : (cur.toList.take l.length)[j]? = some (.int .u8 x.toNat) := by rw [htake, List.getElem?_map, hx]; rfl
    rw [List.getElem?_take, if_pos hj, Array.getElem?_toList] at this
    exact this
  have fin : BldTr b (.slice (some ⟨g, 0, none⟩) l.length cap) w (w.drew.freeze ⟨g, 0, none⟩ l.length) := by
    have key : ∀ n, n ≠ 0 → BldTr b (.slice (some ⟨g, 0, none⟩) l.length cap) w (w.drew.freeze ⟨g, 0, none⟩ n) := by
      intro n hn
      unfold World.freeze
      rw [if_neg hn]
      refine ⟨rfl, rfl, rfl, by rw [Array.size_modify]; exact Nat.le_refl _, fun k hk hkb hkv => ?_⟩
      have hne : k ≠ g := fun e => hkv (by simp [Value.ownBlock, e])
      rw [Array.getElem?_modify, if_neg (fun e => hne e.symm)]
      rfl
    exact key _ hl0
  clear hb hg h0 hle hmax hsz htake hl0
  go_enter Tryz.func153, Tryz.ntmps153
  go_wp2
  go_region
  all_goals (go_wp2; go_ret; exact ⟨rfl, fin⟩)
end Go.Proofs.YtjdknnlhhenpnaaGreatDoor.Bld
namespace Go.Proofs.YtjdknnlhhenpnaaGreatDoor
open Go Go.Abs
def AliveS : Prop := ∀ S g w, StR g S w → Calls Tryz.prog 13 #[] w fun e w' => ∃ v g', e = .returned v ∧ CallR g S w (.bool true) S v w' g'
theorem vs0 {vs : Array Value} (h : 0 = vs.size) : vs = #[] := Array.eq_empty_of_size_eq_zero h.symm
theorem vs1 {vs : Array Value} (h : 1 = vs.size) : vs = #[vs.getD 0 Go.undef] := by
  obtain ⟨l⟩ := vs
  match l, h with
  | [a], _ => rfl
theorem vs2 {vs : Array Value} (h : 2 = vs.size) : vs = #[vs.getD 0 Go.undef, vs.getD 1 Go.undef] := by
  obtain ⟨l⟩ := vs
  match l, h with
  | [a, b], _ => rfl
theorem vref {g : Gh} {w : World} {id off : Nat} {v : Value} (h : g.VR w (.ref id off) v) : ∃ b, g.σ[id]? = some b ∧ v = .pointer (some ⟨b, off, none⟩) := by
  cases h; exact ⟨_, ‹_›, rfl⟩
theorem bparts {g : Gh} {S : St} {w : World} (hS : StR g S w) {id : Nat} {l : List UInt8} (hid : S.objs[id]? = some (.bld 213 5 l)) {b : Nat} (hσ : g.σ[id]? = some b) :
    ∃ p v, w.heap[b]? = some (.cells #[p, v] 213 (0, 0)) ∧ (p = .pointer none ∨ p = .pointer (some ⟨b, 0, none⟩)) ∧ v.ownBlock ≠ some b ∧ RowOf w 5 v l := by
  obtain ⟨b', h1, hOb, hMb, p, v, h2, hTe, hp, hrow⟩ := hS.blds id 213 5 l hid
  rw [hσ] at h1; cases h1
  refine ⟨p, v, h2, hp, ?_, ?_⟩
  · rcases hrow with ⟨rfl, _⟩ | ⟨b2, cap, cur, rfl, _, hne, _⟩
    · intro h; cases h
    · intro h; simp only [Value.ownBlock, Option.some.injEq] at h; exact hne h
  · rcases hrow with h | ⟨b2, cap, cur, rfl, _, _, hr⟩
    · exact .inl h
    · exact .inr ⟨b2, cap, cur, rfl, hr⟩
theorem nat_byte {c : Int} (h0 : 0 ≤ c) (h1 : c < 256) : ((UInt8.ofNat c.toNat).toNat : Int) = c := by
  rw [UInt8.toNat_ofNat']; omega
set_option maxHeartbeats 400000 in
theorem ext_writeByte {args : List PV} {S S' : St} {r : PV} {g : Gh} {w : World} {vs : Array Value} (hh : extWriteByte 213 5 args S = some (r, S')) (hS : StR g S w) (hl : args.length = vs.size)
    (hv : ∀ i, i < args.length → g.VR w (args.getD i .undef) (vs.getD i Go.undef)) : Calls Tryz.prog 182 vs w fun e w' => ∃ v g', e = .returned v ∧ CallR g S w r S' v w' g' := by
  unfold extWriteByte at hh
  split at hh
  · rename_i id c
    split at hh
    · rename_i T e l hid
      split at hh
      · rename_i hc
        obtain ⟨rfl, rfl, c0, c1, hlen⟩ := hc
        cases hh
        obtain ⟨b, hσ, hp0⟩ := vref (hv 0 (by simp))
        have hp1 : vs.getD 1 Go.undef = .int .u8 ((UInt8.ofNat c.toNat).toNat : Int) := by
          rw [nat_byte c0 c1]
          have := hv 1 (by simp)
          cases h : vs.getD 1 Go.undef <;> rw [h] at this <;> cases this
          rfl
        rw [vs2 hl, hp0, hp1]
        obtain ⟨p, v, hb, hp, hne, hrow⟩ := bparts hS hid hσ
        refine (Bld.writeByte _ hb hp hne hrow hlen).mono ?_
        rintro e w' ⟨rfl, ht, v', hb', hrow'⟩
        obtain ⟨g', hR⟩ := bld_write hS hid hσ hb ht hb' hrow' (r := .undef) (rv := .nilIface) (fun g' => .undef _)
        exact ⟨_, g', rfl, hR⟩
      · cases hh
    · cases hh
  · cases hh
set_option maxHeartbeats 400000 in
theorem ext_writeString {args : List PV} {S S' : St} {r : PV} {g : Gh} {w : World} {vs : Array Value} (hh : extWriteString 213 5 args S = some (r, S')) (hS : StR g S w) (hl : args.length = vs.size)
    (hv : ∀ i, i < args.length → g.VR w (args.getD i .undef) (vs.getD i Go.undef)) : Calls Tryz.prog 183 vs w fun e w' => ∃ v g', e = .returned v ∧ CallR g S w r S' v w' g' := by
  unfold extWriteString at hh
  split at hh
  · rename_i id s
    split at hh
    · rename_i T e l hid
      split at hh
      · rename_i hc
        obtain ⟨rfl, rfl, hlen⟩ := hc
        cases hh
        obtain ⟨b, hσ, hp0⟩ := vref (hv 0 (by simp))
        have hp1 : vs.getD 1 Go.undef = .string s := by
          have := hv 1 (by simp)
          cases h : vs.getD 1 Go.undef <;> rw [h] at this <;> cases this
          rfl
        rw [vs2 hl, hp0, hp1]
        obtain ⟨p, v, hb, hp, hne, hrow⟩ := bparts hS hid hσ
        refine (Bld.writeString _ hb hp hne hrow hlen).mono ?_
        rintro e w' ⟨rfl, ht, v', hb', hrow'⟩
        obtain ⟨g', hR⟩ := bld_write hS hid hσ hb ht hb' hrow' (r := .tup [.int .i64 s.size, .undef]) (rv := .tuple #[.int .i64 s.size, .nilIface])
          (fun g' => .tup _ _ rfl (fun i hi => match i, hi with | 0, _ => .int _ _ | 1, _ => .undef _))
        exact ⟨_, g', rfl, hR⟩
      · cases hh
    · cases hh
  · cases hh
set_option maxHeartbeats 400000 in
theorem ext_string {args : List PV} {S S' : St} {r : PV} {g : Gh} {w : World} {vs : Array Value} (hh : extString 213 5 args S = some (r, S')) (hS : StR g S w) (hl : args.length = vs.size)
    (hv : ∀ i, i < args.length → g.VR w (args.getD i .undef) (vs.getD i Go.undef)) : Calls Tryz.prog 153 vs w fun e w' => ∃ v g', e = .returned v ∧ CallR g S w r S' v w' g' := by
  unfold extString at hh
  split at hh
  · rename_i id
    split at hh
    · rename_i T e l hid
      split at hh
      · rename_i hc
        obtain ⟨rfl, rfl⟩ := hc
        cases hh
        obtain ⟨b, hσ, hp0⟩ := vref (hv 0 (by simp))
        rw [vs1 hl, hp0]
        obtain ⟨p, v, hb, hp, hne, hrow⟩ := bparts hS hid hσ
        rcases hrow with ⟨rfl, rfl⟩ | ⟨b2, cap, cur, rfl, h1, h2, h3, h4, h5, h6⟩
        · refine (Bld.string_nil hb).mono ?_
          rintro e w' ⟨rfl, ht⟩
          obtain ⟨g', hR⟩ := bld_end hS hid hσ hb ht (r := .str ⟨#[]⟩) (rv := .string ⟨#[]⟩) (fun g' => .str _)
          exact ⟨_, g', rfl, hR⟩
        · refine (Bld.string_row hb h1 h2 h3 h4 h5 h6).mono ?_
          rintro e w' ⟨rfl, ht⟩
          obtain ⟨g', hR⟩ := bld_end hS hid hσ hb ht (r := .str ⟨l.toArray⟩) (rv := .string ⟨l.toArray⟩) (fun g' => .str _)
          exact ⟨_, g', rfl, hR⟩
      · cases hh
    · cases hh
  · cases hh
theorem hasBody (f : Nat) (h : ((Tryz.prog.funcs[f]?).map fun fn => fn.body.isSome) = some true) : ∃ fn : Func, Tryz.prog.funcs[f]? = some fn ∧ fn.body.isSome = true := by
  obtain ⟨fn, h1, h2⟩ := Option.map_eq_some_iff.1 h
  exact ⟨fn, h1, h2⟩
theorem extS (tr : Bool) (hA : tr = true → AliveS) : ExtS Tryz.prog (T tr) := by
  refine ⟨fun f h hf args S r S' g w vs hh hS hl hv => ?_, fun f h hf => ?_⟩
  · replace hf : extT tr f = some h := hf
    unfold extT at hf
    split at hf
    · rename_i e; subst e
      split at hf
      · rename_i e
        cases hf
        simp only at hh
        split at hh
        · cases hh
          rw [vs0 hl]
          exact hA e S g w hS
        · cases hh
      · cases hf
    · split at hf
      · rename_i e; subst e; cases hf
        exact ext_writeByte hh hS hl hv
      · split at hf
        · rename_i e; subst e; cases hf
          exact ext_writeString hh hS hl hv
        · split at hf
          · rename_i e; subst e; cases hf
            exact ext_string hh hS hl hv
          · cases hf
  · replace hf : extT tr f = some h := hf
    unfold extT at hf
    split at hf
    · rename_i e; subst e; exact hasBody _ (by kernel_rfl)
    · split at hf
      · rename_i e; subst e; exact hasBody _ (by kernel_rfl)
      · split at hf
        · rename_i e; subst e; exact hasBody _ (by kernel_rfl)
        · split at hf
          · rename_i e; subst e; exact hasBody _ (by kernel_rfl)
          · cases hf
end Go.Proofs.YtjdknnlhhenpnaaGreatDoor
namespace Go.Proofs.YtjdknnlhhenpnaaGreatDoor
open Go Go.Abs
theorem namedP : Named Tryz.prog := by
  intro f fn hf hb
  have h : (Tryz.prog.funcs.all fun fn => !(fn.body.isSome && (fn.name == "runtime.NumGoroutine"))) = true := by kernel_rfl
  rw [Array.all_eq_true] at h
  obtain ⟨hlt, he⟩ := Array.getElem?_eq_some_iff.1 hf
  have := h f hlt
  rw [he, hb] at this
  simpa using this
theorem mixed : Tryz.prog.follows .mixedOrders = true := by kernel_rfl
theorem alive_run : ((ev 1000 60 n_vlaw14_alive [] ⟨[], []⟩).bind fun r => match r.1 with | .bool true => some () | _ => none) = some () := by kernel_rfl
theorem aliveS : AliveS := by
  intro S g w hS
  obtain ⟨⟨r, S1⟩, h1, h2⟩ := Option.bind_eq_some_iff.1 alive_run
  have hr : r = .bool true := by
    simp only at h2
    split at h2
    · rfl
    · cases h2
  subst hr
  exact closed_bool namedP (extS false (fun h => by cases h)) mixed (ev_le 1000 60 n_vlaw14_alive [] ⟨[], []⟩ _ h1) hS
theorem sound : ∀ k, CallS Tryz.prog (run Tryz.prog (T true) k) := run_sound namedP (extS true fun _ => aliveS) mixed
end Go.Proofs.YtjdknnlhhenpnaaGreatDoor
