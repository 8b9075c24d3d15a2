/- A part of the proof of one statement: an abstract machine for the model, proved sound; equations of the functions over it; what they reckon. -/
import Derived.Test.YtjdknnlhhenpnaaGreatDoorMachA
import Derived.Below
import Derived.Lib.AppendStr
set_option linter.unusedVariables false
set_option linter.unusedSimpArgs false
namespace Go.Abs
def upd {α : Type} (f : Nat → α) (b : Nat) (x : α) : Nat → α := fun c => if c = b then x else f c
@[simp] theorem upd_same {α : Type} (f : Nat → α) (b : Nat) (x : α) : upd f b x b = x := by simp [upd]
theorem upd_ne {α : Type} (f : Nat → α) {b c : Nat} (x : α) (h : c ≠ b) : upd f b x c = f c := by simp [upd, h]
def nf (o : Own) : Prop := o ≠ .foreign
def Gh.own (g : Gh) (b : Nat) (o : Option Own) (m : Nat) : Gh := { g with O := upd g.O b o, M := upd g.M b m }
section
variable {P : Program} {g g' : Gh} {F : Fr} {S : St} {w w' : World} {a : Act}
structure Grow (w w' : World) : Prop where
  os : w'.os = w.os
  tape : w'.tape = w.tape
  output : w'.output = w.output
  size : w.heap.size ≤ w'.heap.size
  old : ∀ b, b < w.heap.size → w'.heap[b]? = w.heap[b]?
theorem Grow.alloc (w : World) (o : Obj) : Grow w (w.alloc o) := ⟨rfl, rfl, rfl, by simp, fun b hb => heap_alloc_old w o b hb⟩
theorem Grow.refl (w : World) : Grow w w := ⟨rfl, rfl, rfl, Nat.le_refl _, fun _ _ => rfl⟩
theorem Grow.of_below {w w' : World} (h : Go.RowKit.Below w.heap.size w w') : Grow w w' := ⟨h.os, h.tape, h.output, h.size, h.block⟩
theorem Grow.tr (ch : Own → Prop) (h : Grow w w') (hO : ∀ b, b < w.heap.size → g'.O b = g.O b ∧ g'.M b = g.M b) (hσ : ∀ (id b : Nat), g.σ[id]? = some b → g'.σ[id]? = some b) : Tr ch g g' w w' := by
  refine ⟨h.os, h.tape, h.output, h.size, hσ, fun b o v hv hi => ?_, fun b hb hn => ⟨(hO b hb).1.trans hn, h.old b hb⟩, fun b o hb ho _ => ⟨(hO b hb).1.trans ho, (hO b hb).2, h.old b hb⟩, fun b arr ty hb hf => ?_⟩
  rotate_left
  · have hlt : b < w.heap.size := (Array.getElem?_eq_some_iff.1 hb).1
    exact ⟨⟨arr, (h.old b hlt).trans hb⟩, fun id => by rw [(hO b hlt).1]; exact hf id⟩
  have hb : b < w.heap.size := World.block_lt_of_cell? w _ hv
  obtain ⟨e1, e2⟩ := hO b hb
  refine ⟨?_, ?_⟩
  · rw [World.cell?_of_block (w := w) (a := ⟨b, o, none⟩) (h.old b hb)]; exact hv
  · unfold Gh.imm at hi ⊢; rw [e1, e2]; exact hi
theorem Grow.tok {own : Nat → Own} {ts : Toks} {bs : List Nat} (h : Grow w w') (hB : TokB g own ts bs w) : TokTr ts ts bs bs w w' := by
  refine ⟨Nat.le_refl _, fun t n sz _ hn => ⟨n, hn, .inr ⟨rfl, fun b hb => ⟨hb, ?_⟩⟩⟩⟩
  obtain ⟨b', h1, _, _, h4⟩ := hB t n sz hn
  rw [hb] at h1; cases h1
  exact h.old b h4
theorem Grow.tokB {own : Nat → Own} {ts : Toks} {bs : List Nat} (h : Grow w w') (hO : ∀ b, b < w.heap.size → g'.O b = g.O b ∧ g'.M b = g.M b) (hB : TokB g own ts bs w) : TokB g' own ts bs w' := by
  intro t n sz hn
  obtain ⟨b, h1, h2, h3, h4⟩ := hB t n sz hn
  exact ⟨b, h1, (hO b h4).1.trans h2, (hO b h4).2.trans h3, Nat.lt_of_lt_of_le h4 h.size⟩
theorem Grow.fr (h : Grow w w') (hO : ∀ b, b < w.heap.size → g'.O b = g.O b ∧ g'.M b = g.M b) (hσ : ∀ (id b : Nat), g.σ[id]? = some b → g'.σ[id]? = some b) (hψ : g'.ψ = g.ψ) (hτ : g'.τ = g.τ)
    (hF : FrR g F S.htoks w a) (hS : StR g S w) : FrR g' F S.htoks w' a := by
  have t : Tr (fun _ => False) g g' w w' := h.tr _ hO hσ
  have h1 := h.tok (g := g) (own := .tok) hF.toks
  have h2 := h.tok (g := g) (own := .htok) hS.toks
  rw [← hψ] at h1
  rw [← hτ] at h2
  exact hF.keep t (fun _ h => h) (by rw [hψ]; rw [hψ] at h1; exact h1) (by rw [hτ]; rw [hτ] at h2; exact h2) (by rw [hψ]; exact h.tokB hO hF.toks) (by rw [hψ]; exact hF.psi)
theorem Grow.st (h : Grow w w') (hO : ∀ b, b < w.heap.size → g'.O b = g.O b ∧ g'.M b = g.M b) (hσ : g'.σ = g.σ) (hτ : g'.τ = g.τ) (hS : StR g S w) : StR g' S w' := by
  have t : Tr (fun _ => False) g g' w w' := h.tr _ hO (by rw [hσ]; exact fun _ _ h => h)
  have h2 := h.tok (g := g) (own := .htok) hS.toks
  exact hS.keep t (fun _ h => h) hσ (by rw [hτ]; exact h2) (by rw [hτ]; exact h.tokB hO hS.toks) (by rw [hτ]; exact hS.tau)
structure After (g : Gh) (S : St) (w : World) (F' : Fr) (S' : St) (a' : Act) (w' : World) (g' : Gh) : Prop where
  fr : FrR g' F' S'.htoks w' a'
  st : StR g' S' w'
  tr : Tr nf g g' w w'
  tok : TokTr S.htoks S'.htoks g.τ g'.τ w w'
theorem own_old {b0 : Nat} {o : Option Own} {m : Nat} (b : Nat) (h : b ≠ b0) : (g.own b0 o m).O b = g.O b ∧ (g.own b0 o m).M b = g.M b := ⟨upd_ne _ _ h, upd_ne _ _ h⟩
theorem FrR.setBox {ht : Toks} (h : FrR g F ht w a) (d : Tmp) (cs : List Cell) (b : Nat) (hO : g.O b = some (.box d)) (hM : g.M b = 0) (hB : BlockR g F.toks ht w b cs) (hl : F.env.all (SV.notTo d) = true) :
    FrR g (F.set d (.box cs)) ht w (a.put (some d) (.pointer (some ⟨b, 0, none⟩))) := by
  by_cases hd : d < F.env.length
  · have hd' : d < a.tmps.size := by rw [h.size]; exact hd
    refine ⟨?_, h.defers, ?_, ?_, ?_, h.toks, h.psi⟩
    · simp [Act.put, Fr.set, h.size]
    · intro t y k ht'
      simp only [Fr.set] at ht' ⊢
      rw [set_get _ _ _ _ hd] at ht'
      rw [getD_put _ _ _ _ hd']
      by_cases e : t = d
      · rw [if_pos e] at ht'; cases ht'
      · rw [if_neg e] at ht' ⊢; exact h.vals t y k ht'
    · intro t cs' ht'
      simp only [Fr.set] at ht' ⊢
      rw [set_get _ _ _ _ hd] at ht'
      rw [getD_put _ _ _ _ hd']
      by_cases e : t = d
      · rw [if_pos e] at ht' ⊢; cases ht'
        exact ⟨b, rfl, by rw [e]; exact hO, hM, hB⟩
      · rw [if_neg e] at ht' ⊢; exact h.boxes t cs' ht'
    · intro t s o cs' ht' hs
      simp only [Fr.set] at ht' hs ⊢
      rw [set_get _ _ _ _ hd] at ht' hs
      rw [getD_put _ _ _ _ hd', getD_put _ _ _ _ hd']
      by_cases e : t = d
      · rw [if_pos e] at ht'; cases ht'
      · rw [if_neg e] at ht' ⊢
        by_cases es : s = d
        · have := List.all_eq_true.1 hl _ (List.mem_of_getElem? ht')
          simp [SV.notTo] at this
          exact absurd es this
        · rw [if_neg es] at hs ⊢
          exact h.lps t s o cs' ht' hs
  · have e1 : F.set d (.box cs) = F := by simp only [Fr.set]; rw [List.set_eq_of_length_le (Nat.not_lt.1 hd)]
    have e2 : a.put (some d) (.pointer (some ⟨b, 0, none⟩)) = a := by
      simp only [Act.put]
      have hd' : a.tmps.size ≤ d := by rw [h.size]; exact Nat.not_lt.1 hd
      have : a.tmps.setIfInBounds d (.pointer (some ⟨b, 0, none⟩)) = a.tmps := by simp [Array.setIfInBounds, Nat.not_lt.2 hd']
      rw [this]
    rw [e1, e2]; exact h
def CellsR (g : Gh) (ft ht : Toks) (w : World) (cs : List Cell) (arr : List Value) : Prop := arr.length = cs.length ∧ ∀ i c, cs[i]? = some c → CellR g ft ht w c (arr.getD i Go.undef)
theorem CsR.cells {ft ht : Toks} {cs : List PV} {arr : List Value} (h : CsR g w cs arr) : CellsR g ft ht w (cs.map fun c => (c, none)) arr := by
  refine ⟨by simpa using h.1, fun i c hc => ?_⟩
  rw [List.getElem?_map] at hc
  obtain ⟨y, hy, rfl⟩ := Option.map_eq_some_iff.1 hc
  have := h.2 i (List.getElem?_eq_some_iff.1 hy).1
  rw [List.getD_eq_getElem?_getD, hy] at this
  exact ⟨this.1, trivial, this.2⟩
theorem after_box (hF : FrR g F S.htoks w a) (hS : StR g S w) (d : Tmp) (cs : List Cell) (arr : Array Value) (ty : TypeId) (hc : CellsR g F.toks S.htoks w cs arr.toList) (hl : F.env.all (SV.notTo d) = true) :
    After g S w (F.set d (.box cs)) S (a.put (some d) (.pointer (some ⟨w.heap.size, 0, none⟩))) (w.alloc (.cells arr ty)) (g.own w.heap.size (some (.box d)) 0) := by
  have hG := Grow.alloc w (.cells arr ty)
  have hO : ∀ b, b < w.heap.size → (g.own w.heap.size (some (.box d)) 0).O b = g.O b ∧ (g.own w.heap.size (some (.box d)) 0).M b = g.M b := fun b hb => own_old b (by omega)
  have t := hG.tr (g := g) (g' := g.own w.heap.size (some (.box d)) 0) nf hO (fun _ _ h => h)
  refine ⟨?_, hG.st hO rfl rfl hS, t, hG.tok hS.toks⟩
  refine (hG.fr hO (fun _ _ h => h) rfl rfl hF hS).setBox d cs w.heap.size (by simp [Gh.own]) (by simp [Gh.own]) ⟨arr, ty, heap_alloc_new w _, by simpa using hc.1, fun i c hi => ?_⟩ hl
  have := (hc.2 i c hi).keep t (hG.tok hF.toks) (hG.tok hS.toks)
  simpa [Array.getD_eq_getD_getElem?] using this
theorem after_obj (hF : FrR g F S.htoks w a) (hS : StR g S w) (d : Tmp) (cs : List PV) (arr : Array Value) (ty : TypeId) (x : PV) (v : Value) (hc : CsR g w cs arr.toList)
    (hx : ∀ g' : Gh, g'.σ[S.objs.length]? = some w.heap.size → g'.VR (w.alloc (.cells arr ty)) x v) :
    ∃ g', After g S w (F.set d (.v x none)) { S with objs := S.objs ++ [.cells (cs.map fun c => (c, none))] } (a.put (some d) v) (w.alloc (.cells arr ty)) g' := by
  have hG := Grow.alloc w (.cells arr ty)
  let g' : Gh := { g.own w.heap.size (some (.obj S.objs.length)) 0 with σ := g.σ ++ [w.heap.size] }
  have hO : ∀ b, b < w.heap.size → g'.O b = g.O b ∧ g'.M b = g.M b := fun b hb => own_old (g := g) b (by omega)
  have hσ : ∀ (id b : Nat), g.σ[id]? = some b → g'.σ[id]? = some b := fun id b h => by
    show (g.σ ++ [w.heap.size])[id]? = some b
    rw [List.getElem?_append_left (List.getElem?_eq_some_iff.1 h).1]; exact h
  have hnew : g'.σ[S.objs.length]? = some w.heap.size := by
    show (g.σ ++ [w.heap.size])[S.objs.length]? = some w.heap.size
    rw [← hS.sigma, List.getElem?_append_right (Nat.le_refl _)]; simp
  have t : ∀ ch, Tr ch g g' w (w.alloc (.cells arr ty)) := fun ch => hG.tr ch hO hσ
  have hfr := hG.fr hO hσ rfl rfl hF hS
  have hnil : TokTr [] [] g.ψ g'.ψ w (w.alloc (.cells arr ty)) := ⟨Nat.le_refl _, fun t n sz ht => by simp at ht⟩
  refine ⟨g', hfr.putV (some d) x none v (hx g' hnew) trivial, ⟨?_, hS.tau, ?_, ?_, hG.tokB hO hS.toks, (blks_keep hS (t nf) (blk_push (by simp))).1, blds_keep hS hσ (fun id T e l hid => ⟨bld_push (by simp) id T e l hid, fun c hc ho => ⟨(hO c hc).1.trans ho, (hO c hc).2, hG.old c hc⟩⟩), (blks_keep hS (t nf) (blk_push (by simp))).2⟩, t nf, hG.tok hS.toks⟩
  · show (g.σ ++ [w.heap.size]).length = _
    simp [hS.sigma]
  · intro id cs' hid
    simp only at hid
    by_cases hlt : id < S.objs.length
    · rw [List.getElem?_append_left hlt] at hid
      obtain ⟨⟨b, b1, b2, b3, b4⟩, b5⟩ := hS.cells id cs' hid
      obtain ⟨c1, c2, c3⟩ := (t fun _ => False).oth b _ b4.lt b2 (fun h => h)
      exact ⟨⟨b, hσ _ _ b1, c1, c2.trans b3, b4.keep (t fun _ => False) hnil (hG.tok hS.toks) c3⟩, b5⟩
    · rw [List.getElem?_append_right (Nat.not_lt.1 hlt)] at hid
      have : id - S.objs.length = 0 := by
        have := (List.getElem?_eq_some_iff.1 hid).1
        simpa using this
      have hid' : id = S.objs.length := by omega
      subst hid'
      simp at hid
      subst hid
      refine ⟨⟨w.heap.size, hnew, by show upd _ _ _ _ = _; simp, by show upd _ _ _ _ = _; simp, arr, ty, heap_alloc_new w _, by simpa using hc.1, fun i c hi => ?_⟩, fun c hc' => ?_⟩
      · have := (hc.cells (ft := []) (ht := S.htoks)).2 i c hi
        have := this.keep (t fun _ => False) hnil (hG.tok hS.toks)
        simpa [Array.getD_eq_getD_getElem?] using this
      · simp at hc'; obtain ⟨y, _, rfl⟩ := hc'; trivial
  · intro id es hid
    simp only at hid
    by_cases hlt : id < S.objs.length
    · rw [List.getElem?_append_left hlt] at hid
      obtain ⟨b, ents, clock, b1, b2, b3, b4, b5⟩ := hS.maps id es hid
      obtain ⟨c1, c2, c3⟩ := (t fun _ => False).oth b _ (Array.getElem?_eq_some_iff.1 b3).1 b2.1 (fun h => h)
      exact ⟨b, ents, clock, hσ _ _ b1, ⟨c1, c2.trans b2.2⟩, by rw [c3]; exact b3, b4, fun i e he => ⟨(t nf).vr (b5 i e he).1, (t nf).vr (b5 i e he).2⟩⟩
    · rw [List.getElem?_append_right (Nat.not_lt.1 hlt)] at hid
      have : id - S.objs.length = 0 := by
        have := (List.getElem?_eq_some_iff.1 hid).1
        simpa using this
      rw [this] at hid
      simp at hid
theorem after_map (hF : FrR g F S.htoks w a) (hS : StR g S w) (d : Option Tmp) :
    ∃ g', After g S w (F.put d (.v (.mp S.objs.length) none)) { S with objs := S.objs ++ [.map []] } (a.put d (.map (some w.heap.size))) (w.alloc (.map #[] 0)) g' := by
  have hG := Grow.alloc w (.map #[] 0)
  let g' : Gh := { g.own w.heap.size (some (.obj S.objs.length)) 0 with σ := g.σ ++ [w.heap.size] }
  have hO : ∀ b, b < w.heap.size → g'.O b = g.O b ∧ g'.M b = g.M b := fun b hb => own_old (g := g) b (by omega)
  have hσ : ∀ (id b : Nat), g.σ[id]? = some b → g'.σ[id]? = some b := fun id b h => by
    show (g.σ ++ [w.heap.size])[id]? = some b
    rw [List.getElem?_append_left (List.getElem?_eq_some_iff.1 h).1]; exact h
  have hnew : g'.σ[S.objs.length]? = some w.heap.size := by
    show (g.σ ++ [w.heap.size])[S.objs.length]? = some w.heap.size
    rw [← hS.sigma, List.getElem?_append_right (Nat.le_refl _)]; simp
  have t : ∀ ch, Tr ch g g' w (w.alloc (.map #[] 0)) := fun ch => hG.tr ch hO hσ
  have hfr := hG.fr hO hσ rfl rfl hF hS
  have hnil : TokTr [] [] g.ψ g'.ψ w (w.alloc (.map #[] 0)) := ⟨Nat.le_refl _, fun t n sz ht => by simp at ht⟩
  refine ⟨g', hfr.putV d _ none _ (.mp _ _ hnew) trivial, ⟨?_, hS.tau, ?_, ?_, hG.tokB hO hS.toks, (blks_keep hS (t nf) (blk_push (by simp))).1, blds_keep hS hσ (fun id T e l hid => ⟨bld_push (by simp) id T e l hid, fun c hc ho => ⟨(hO c hc).1.trans ho, (hO c hc).2, hG.old c hc⟩⟩), (blks_keep hS (t nf) (blk_push (by simp))).2⟩, t nf, hG.tok hS.toks⟩
  · show (g.σ ++ [w.heap.size]).length = _
    simp [hS.sigma]
  · intro id cs' hid
    simp only at hid
    by_cases hlt : id < S.objs.length
    · rw [List.getElem?_append_left hlt] at hid
      obtain ⟨⟨b, b1, b2, b3, b4⟩, b5⟩ := hS.cells id cs' hid
      obtain ⟨c1, c2, c3⟩ := (t fun _ => False).oth b _ b4.lt b2 (fun h => h)
      exact ⟨⟨b, hσ _ _ b1, c1, c2.trans b3, b4.keep (t fun _ => False) hnil (hG.tok hS.toks) c3⟩, b5⟩
    · rw [List.getElem?_append_right (Nat.not_lt.1 hlt)] at hid
      have : id - S.objs.length = 0 := by
        have := (List.getElem?_eq_some_iff.1 hid).1
        simpa using this
      rw [this] at hid
      simp at hid
  · intro id es hid
    simp only at hid
    by_cases hlt : id < S.objs.length
    · rw [List.getElem?_append_left hlt] at hid
      obtain ⟨b, ents, clock, b1, b2, b3, b4, b5⟩ := hS.maps id es hid
      obtain ⟨c1, c2, c3⟩ := (t fun _ => False).oth b _ (Array.getElem?_eq_some_iff.1 b3).1 b2.1 (fun h => h)
      exact ⟨b, ents, clock, hσ _ _ b1, ⟨c1, c2.trans b2.2⟩, by rw [c3]; exact b3, b4, fun i e he => ⟨(t nf).vr (b5 i e he).1, (t nf).vr (b5 i e he).2⟩⟩
    · rw [List.getElem?_append_right (Nat.not_lt.1 hlt)] at hid
      have : id - S.objs.length = 0 := by
        have := (List.getElem?_eq_some_iff.1 hid).1
        simpa using this
      have hid' : id = S.objs.length := by omega
      subst hid'
      simp at hid
      subst hid
      exact ⟨w.heap.size, #[], 0, hnew, ⟨by show upd _ _ _ _ = _; simp, by show upd _ _ _ _ = _; simp⟩, heap_alloc_new w _, rfl, fun i e he => by simp at he⟩
theorem after_bld (hF : FrR g F S.htoks w a) (hS : StR g S w) (d : Tmp) (T e : TypeId) (hTe : T ≠ e) :
    ∃ g', After g S w (F.set d (.v (.ref S.objs.length 0) none)) { S with objs := S.objs ++ [.bld T e []] } (a.put (some d) (.pointer (some ⟨w.heap.size, 0, none⟩))) (w.alloc (.cells #[.pointer none, .slice none 0 0] T)) g' := by
  have hG := Grow.alloc w (.cells #[.pointer none, .slice none 0 0] T)
  let g' : Gh := { g.own w.heap.size (some (.obj S.objs.length)) 0 with σ := g.σ ++ [w.heap.size] }
  have hO : ∀ b, b < w.heap.size → g'.O b = g.O b ∧ g'.M b = g.M b := fun b hb => own_old (g := g) b (by omega)
  have hσ : ∀ (id b : Nat), g.σ[id]? = some b → g'.σ[id]? = some b := fun id b h => by
    show (g.σ ++ [w.heap.size])[id]? = some b
    rw [List.getElem?_append_left (List.getElem?_eq_some_iff.1 h).1]; exact h
  have hnew : g'.σ[S.objs.length]? = some w.heap.size := by
    show (g.σ ++ [w.heap.size])[S.objs.length]? = some w.heap.size
    rw [← hS.sigma, List.getElem?_append_right (Nat.le_refl _)]; simp
  have t : ∀ ch, Tr ch g g' w (w.alloc (.cells #[.pointer none, .slice none 0 0] T)) := fun ch => hG.tr ch hO hσ
  have hfr := hG.fr hO hσ rfl rfl hF hS
  have hnil : TokTr [] [] g.ψ g'.ψ w (w.alloc (.cells #[.pointer none, .slice none 0 0] T)) := ⟨Nat.le_refl _, fun t n sz ht => by simp at ht⟩
  have old : ∀ (id : Nat) (x : Ob), (S.objs ++ [Ob.bld T e []])[id]? = some x → (x = Ob.bld T e [] ∧ id = S.objs.length) ∨ S.objs[id]? = some x := by
    intro id x h
    by_cases hlt : id < S.objs.length
    · rw [List.getElem?_append_left hlt] at h; exact .inr h
    · rw [List.getElem?_append_right (Nat.not_lt.1 hlt)] at h
      have h0 : id - S.objs.length = 0 := by
        have := (List.getElem?_eq_some_iff.1 h).1
        simpa using this
      rw [h0] at h
      simp at h
      exact .inl ⟨h.symm, by omega⟩
  refine ⟨g', hfr.putV (some d) _ none _ (.ref _ _ _ hnew) trivial, ⟨?_, hS.tau, ?_, ?_, hG.tokB hO hS.toks, (blks_keep hS (t nf) (blk_push (by simp))).1, ?_, (blks_keep hS (t nf) (blk_push (by simp))).2⟩, t nf, hG.tok hS.toks⟩
  · show (g.σ ++ [w.heap.size]).length = _
    simp [hS.sigma]
  · intro id cs' hid
    rcases old id _ hid with ⟨e', _⟩ | hid
    · cases e'
    · obtain ⟨⟨b, b1, b2, b3, b4⟩, b5⟩ := hS.cells id cs' hid
      obtain ⟨c1, c2, c3⟩ := (t fun _ => False).oth b _ b4.lt b2 (fun h => h)
      exact ⟨⟨b, hσ _ _ b1, c1, c2.trans b3, b4.keep (t fun _ => False) hnil (hG.tok hS.toks) c3⟩, b5⟩
  · intro id es hid
    rcases old id _ hid with ⟨e', _⟩ | hid
    · cases e'
    · obtain ⟨b, ents, clock, b1, b2, b3, b4, b5⟩ := hS.maps id es hid
      obtain ⟨c1, c2, c3⟩ := (t fun _ => False).oth b _ (Array.getElem?_eq_some_iff.1 b3).1 b2.1 (fun h => h)
      exact ⟨b, ents, clock, hσ _ _ b1, ⟨c1, c2.trans b2.2⟩, by rw [c3]; exact b3, b4, fun i e he => ⟨(t nf).vr (b5 i e he).1, (t nf).vr (b5 i e he).2⟩⟩
  · intro id T' e' l hid
    rcases old id _ hid with ⟨e1, rfl⟩ | hid
    · cases e1
      exact ⟨w.heap.size, hnew, by show upd _ _ _ _ = _; simp, by show upd _ _ _ _ = _; simp, _, _, heap_alloc_new w _, hTe, .inl rfl, .inl ⟨rfl, rfl⟩⟩
    · obtain ⟨b, b1, b2, b3, b4⟩ := hS.blds id T' e' l hid
      have hk : ∀ c, c < w.heap.size → g.O c = some (.obj id) → g'.O c = some (.obj id) ∧ g'.M c = g.M c ∧ (w.alloc (.cells #[.pointer none, .slice none 0 0] T)).heap[c]? = w.heap[c]? := fun c hc ho => ⟨(hO c hc).1.trans ho, (hO c hc).2, hG.old c hc⟩
      have hlt : b < w.heap.size := by obtain ⟨p, v, q1, _⟩ := b4; exact (Array.getElem?_eq_some_iff.1 q1).1
      exact ⟨b, hσ _ _ b1, (hk b hlt b2).1, (hk b hlt b2).2.1.trans b3, b4.keep b2 hk⟩
theorem after_new (hF : FrR g F S.htoks w a) (hS : StR g S w) (d : Option Tmp) (arr : Array Value) (ty : TypeId) (x : PV) (k : Option Tk) (v : Value)
    (hx : ∀ g' : Gh, Tr nf g g' w (w.alloc (.cells arr ty)) → g'.O w.heap.size = none → g'.VR (w.alloc (.cells arr ty)) x v) (hk : k = none ∨ (k = some .full ∧ ∃ p n, v = .slice p n n)) :
    ∃ g', After g S w (F.put d (.v x k)) S (a.put d v) (w.alloc (.cells arr ty)) g' := by
  have hG := Grow.alloc w (.cells arr ty)
  have hO : ∀ b, b < w.heap.size → (g.own w.heap.size none 0).O b = g.O b ∧ (g.own w.heap.size none 0).M b = g.M b := fun b hb => own_old b (by omega)
  have t := hG.tr (g := g) (g' := g.own w.heap.size none 0) nf hO (fun _ _ h => h)
  refine ⟨_, ?_, hG.st hO rfl rfl hS, t, hG.tok hS.toks⟩
  refine (hG.fr hO (fun _ _ h => h) rfl rfl hF hS).putV d x k v (hx _ t (by simp [Gh.own])) ?_
  rcases hk with rfl | ⟨rfl, hk⟩
  · trivial
  · exact hk
end
end Go.Abs
namespace Go.Abs
section
variable {P : Program} {g g' : Gh} {F : Fr} {S : St} {w w' : World} {a : Act}
structure Put1 (b0 : Nat) (w w' : World) : Prop where
  os : w'.os = w.os
  tape : w'.tape = w.tape
  output : w'.output = w.output
  size : w.heap.size = w'.heap.size
  old : ∀ b, b ≠ b0 → w'.heap[b]? = w.heap[b]?
  cz : ∀ arr ty, w.heap[b0]? = some (.cells arr ty (0, 0)) → ∃ arr', w'.heap[b0]? = some (.cells arr' ty (0, 0))
theorem Put1.tr {b0 : Nat} {o0 : Own} (h : Put1 b0 w w') (hO : g.O b0 = some o0) (hM : g.M b0 = 0) : Tr (· = o0) g g w w' := by
  refine ⟨h.os, h.tape, h.output, Nat.le_of_eq h.size, fun _ _ h => h, fun b o v hv hi => ?_, fun b hb hn => ⟨hn, h.old b ?_⟩, fun b o hb ho hne => ⟨ho, rfl, h.old b ?_⟩, fun b arr ty hb hf => ⟨?_, hf⟩⟩
  rotate_right
  · by_cases e : b = b0
    · subst e; exact h.cz arr ty hb
    · exact ⟨arr, (h.old b e).trans hb⟩
  · have hne : b ≠ b0 := by
      rintro rfl
      rcases hi with hi | hi
      · rw [hO] at hi; cases hi
      · rw [hM] at hi; omega
    refine ⟨?_, hi⟩
    rw [World.cell?_of_block (w := w) (a := ⟨b, o, none⟩) (h.old b hne)]; exact hv
  · rintro rfl; rw [hO] at hn; cases hn
  · rintro rfl; rw [hO] at ho; cases ho; exact hne rfl
theorem Put1.tok {own : Nat → Own} {ts : Toks} {bs : List Nat} {b0 : Nat} (h : Put1 b0 w w') (hB : TokB g own ts bs w) (hO : ∀ t, g.O b0 ≠ some (own t)) : TokTr ts ts bs bs w w' := by
  refine ⟨Nat.le_refl _, fun t n sz _ hn => ⟨n, hn, .inr ⟨rfl, fun b hb => ⟨hb, ?_⟩⟩⟩⟩
  obtain ⟨b', h1, h2, _, h4⟩ := hB t n sz hn
  rw [hb] at h1; cases h1
  exact h.old b (by rintro rfl; exact hO t h2)
theorem Put1.tokB {own : Nat → Own} {ts : Toks} {bs : List Nat} {b0 : Nat} (h : Put1 b0 w w') (hB : TokB g own ts bs w) : TokB g own ts bs w' := by
  intro t n sz hn
  obtain ⟨b', h1, h2, h3, h4⟩ := hB t n sz hn
  exact ⟨b', h1, h2, h3, by rw [← h.size]; exact h4⟩
theorem Put1.setRow (w : World) (b0 : Nat) (arr : Array Value) : Put1 b0 w (w.setRow b0 arr) := ⟨rfl, rfl, rfl, by simp, fun b hb => setRow_other w b0 b arr hb, fun cs ty hb => ⟨arr, setRow_heap w b0 cs arr ty (0, 0) hb⟩⟩
theorem BlockR.put1 {ch : Own → Prop} {ft ht : Toks} {b b0 : Nat} {cs : List Cell} (h : BlockR g ft ht w b cs) (t : Tr ch g g w w') (h1 : TokTr ft ft g.ψ g.ψ w w')
    (h2 : TokTr ht ht g.τ g.τ w w') (hp : Put1 b0 w w') (hb : b ≠ b0) : BlockR g ft ht w' b cs := h.keep t h1 h2 (hp.old b hb)
theorem after_store_box (hF : FrR g F S.htoks w a) (hS : StR g S w) {t : Tmp} {cs cs' : List Cell} {b : Nat} (hp : Put1 b w w') (he : F.env[t]? = some (.box cs)) (hb : a.tmps.getD t Go.undef = .pointer (some ⟨b, 0, none⟩))
    (hO : g.O b = some (.box t)) (hM : g.M b = 0) (hB : BlockR g F.toks S.htoks w' b cs') : After g S w (F.set t (.box cs')) S a w' g := by
  have hd : t < F.env.length := (List.getElem?_eq_some_iff.1 he).1
  have tr := hp.tr hO hM
  have t1 := hp.tok (own := .tok) hF.toks (fun t' h => by rw [hO] at h; cases h)
  have t2 := hp.tok (own := .htok) hS.toks (fun t' h => by rw [hO] at h; cases h)
  refine ⟨⟨?_, hF.defers, ?_, ?_, ?_, hp.tokB hF.toks, hF.psi⟩, ?_, tr.weaken (by rintro o rfl h; cases h), t2⟩
  · simp [Fr.set, hF.size]
  · intro s y k hs
    simp only [Fr.set] at hs
    rw [set_get _ _ _ _ hd] at hs
    split at hs
    · cases hs
    · obtain ⟨a1, a2⟩ := hF.vals s y k hs
      exact ⟨tr.vr a1, a2.keep t1 t2⟩
  · intro s cs'' hs
    simp only [Fr.set] at hs
    rw [set_get _ _ _ _ hd] at hs
    split at hs
    · rename_i e; subst e; cases hs
      exact ⟨b, hb, hO, hM, hB⟩
    · rename_i e
      obtain ⟨b', b1, b2, b3, b4⟩ := hF.boxes s cs'' hs
      exact ⟨b', b1, b2, b3, b4.put1 tr t1 t2 hp (by rintro rfl; rw [hO] at b2; cases b2; exact e rfl)⟩
  · intro s u o cs'' hs hu
    simp only [Fr.set] at hs hu
    rw [set_get _ _ _ _ hd] at hs hu
    split at hs
    · cases hs
    · split at hu
      · rename_i e; subst e; exact hF.lps s u o cs hs he
      · exact hF.lps s u o cs'' hs hu
  · exact hS.keep tr (fun s h => by cases h) rfl t2 (hp.tokB hS.toks) hS.tau
theorem StR.setObj (hS : StR g S w) {id : Nat} {ob : Ob} {b : Nat} (hp : Put1 b w w') (hid : g.σ[id]? = some b) (hO : g.O b = some (.obj id))
    (hM : g.M b = 0) (hnb : ob ≠ Ob.blk) (hbl : ∀ T e l, ob ≠ Ob.bld T e l) (hc : ∀ cs, ob = .cells cs → BlockR g [] S.htoks w' b cs ∧ ∀ c ∈ cs, noLoc c.2)
    (hm : ∀ es, ob = .map es → ∃ ents clock, w'.heap[b]? = some (.map ents clock) ∧ ents.size = es.length ∧ ∀ (i : Nat) e, es[i]? = some e → g.VR w' e.1 (ents.getD i default).key ∧ g.VR w' e.2 (ents.getD i default).val) :
    StR g { S with objs := S.objs.set id ob } w' := by
  have hlt : id < S.objs.length := by rw [← hS.sigma]; exact (List.getElem?_eq_some_iff.1 hid).1
  have tr := hp.tr hO hM
  have t2 := hp.tok (own := .htok) hS.toks (fun t' h => by rw [hO] at h; cases h)
  have hnil : TokTr [] [] g.ψ g.ψ w w' := ⟨Nat.le_refl _, fun t n sz ht => by simp at ht⟩
  refine ⟨by simp [hS.sigma], hS.tau, fun i cs hi => ?_, fun i es hi => ?_, hp.tokB hS.toks, (blks_keep hS tr (blk_set hnb)).1, blds_keep hS (fun _ _ h => h) (fun i T e l hi => ?_), (blks_keep hS tr (blk_set hnb)).2⟩
  rotate_right
  · simp only at hi
    rw [set_get _ _ _ _ hlt] at hi
    split at hi
    · exact absurd (Option.some.inj hi) (hbl T e l)
    · rename_i e'
      exact ⟨hi, fun c hc ho => ⟨ho, rfl, hp.old c (by rintro rfl; rw [hO] at ho; cases ho; exact e' rfl)⟩⟩
  · simp only at hi
    rw [set_get _ _ _ _ hlt] at hi
    split at hi
    · rename_i e; subst e
      cases hi
      obtain ⟨h1, h2⟩ := hc cs rfl
      exact ⟨⟨b, hid, hO, hM, h1⟩, h2⟩
    · rename_i e
      obtain ⟨⟨b', b1, b2, b3, b4⟩, b5⟩ := hS.cells i cs hi
      exact ⟨⟨b', b1, b2, b3, b4.put1 tr hnil t2 hp (by rintro rfl; rw [hO] at b2; cases b2; exact e rfl)⟩, b5⟩
  · simp only at hi
    rw [set_get _ _ _ _ hlt] at hi
    split at hi
    · rename_i e; subst e
      cases hi
      obtain ⟨ents, clock, h1, h2, h3⟩ := hm es rfl
      exact ⟨b, ents, clock, hid, ⟨hO, hM⟩, h1, h2, h3⟩
    · rename_i e
      obtain ⟨b', ents, clock, b1, b2, b3, b4, b5⟩ := hS.maps i es hi
      have hne : b' ≠ b := by rintro rfl; have b2 := b2.1; rw [hO] at b2; cases b2; exact e rfl
      exact ⟨b', ents, clock, b1, b2, by rw [hp.old b' hne]; exact b3, b4, fun i e he => ⟨tr.vr (b5 i e he).1, tr.vr (b5 i e he).2⟩⟩
theorem after_store_obj (hF : FrR g F S.htoks w a) (hS : StR g S w) {id : Nat} {ob : Ob} {b : Nat} (hp : Put1 b w w') (hid : g.σ[id]? = some b) (hO : g.O b = some (.obj id))
    (hM : g.M b = 0) (hnb : ob ≠ Ob.blk) (hbl : ∀ T e l, ob ≠ Ob.bld T e l) (hc : ∀ cs, ob = .cells cs → BlockR g [] S.htoks w' b cs ∧ ∀ c ∈ cs, noLoc c.2)
    (hm : ∀ es, ob = .map es → ∃ ents clock, w'.heap[b]? = some (.map ents clock) ∧ ents.size = es.length ∧ ∀ (i : Nat) e, es[i]? = some e → g.VR w' e.1 (ents.getD i default).key ∧ g.VR w' e.2 (ents.getD i default).val) :
    After g S w F { S with objs := S.objs.set id ob } a w' g := by
  have tr := hp.tr hO hM
  have t1 := hp.tok (own := .tok) hF.toks (fun t' h => by rw [hO] at h; cases h)
  have t2 := hp.tok (own := .htok) hS.toks (fun t' h => by rw [hO] at h; cases h)
  exact ⟨hF.keep tr (fun s h => by cases h) t1 t2 (hp.tokB hF.toks) hF.psi, hS.setObj hp hid hO hM hnb hbl hc hm, tr.weaken (by rintro o rfl h; cases h), t2⟩
theorem After.trans {g g' g'' : Gh} {S S' S'' : St} {w w' w'' : World} {F' F'' : Fr} {a' a'' : Act} (h : After g S w F' S' a' w' g') (h' : After g' S' w' F'' S'' a'' w'' g'') : After g S w F'' S'' a'' w'' g'' :=
  ⟨h'.fr, h'.st, h.tr.trans h'.tr, h.tok.trans h'.tok⟩
theorem after_toHeap (hF : FrR g F S.htoks w a) (hS : StR g S w) {x : PV} {k : Option Tk} {v : Value} (hx : g.VR w x v) (hk : TkR g F.toks S.htoks w k x v) {F' : Fr} {S' : St} {k' : Option Tk} (h : toHeap F S x k = (F', S', k')) :
    ∃ g', After g S w F' S' a w g' ∧ TkR g' F'.toks S'.htoks w k' x v ∧ noLoc k' ∧ S'.objs = S.objs ∧ F'.env = F.env ∧ g'.σ = g.σ ∧ (∀ b o, g.O b = some (.box o) → g'.O b = some (.box o) ∧ g'.M b = g.M b) ∧ (∀ b o, g.O b = some (.obj o) → g'.O b = some (.obj o) ∧ g'.M b = g.M b) := by
  have same : k' = k ∨ k' = none → F' = F → S' = S → noLoc k' → ∃ g', After g S w F' S' a w g' ∧ TkR g' F'.toks S'.htoks w k' x v ∧ noLoc k' ∧ S'.objs = S.objs ∧ F'.env = F.env ∧ g'.σ = g.σ ∧ (∀ b o, g.O b = some (.box o) → g'.O b = some (.box o) ∧ g'.M b = g.M b) ∧ (∀ b o, g.O b = some (.obj o) → g'.O b = some (.obj o) ∧ g'.M b = g.M b) := by
    rintro hk' rfl rfl hn
    refine ⟨g, ⟨hF, hS, Tr.refl _ _ _, TokTr.refl _ _ _⟩, ?_, hn, rfl, rfl, rfl, fun _ _ h => ⟨h, rfl⟩, fun _ _ h => ⟨h, rfl⟩⟩
    rcases hk' with rfl | rfl
    · exact hk
    · trivial
  unfold toHeap at h
  split at h
  · rename_i t
    split at h
    · rename_i n sz hn
      cases h
      obtain ⟨b, h1, h2, h3, h4⟩ := hF.toks t n sz hn
      have htl : t < F.toks.length := (List.getElem?_eq_some_iff.1 hn).1
      let g' : Gh := { g with τ := g.τ ++ [b], O := upd g.O b (some (.htok S.htoks.length)) }
      have hO : ∀ c, c ≠ b → g'.O c = g.O c := fun c hc => upd_ne _ _ hc
      have tr : Tr (· = .tok t) g g' w w := by
        refine ⟨rfl, rfl, rfl, Nat.le_refl _, fun _ _ h => h, fun c o v hv hi => ⟨hv, ?_⟩, fun c hc hn' => ⟨?_, rfl⟩, fun c o hc ho hne => ⟨?_, rfl, rfl⟩, fun c arr ty hc hf => ⟨⟨arr, hc⟩, fun id hid => ?_⟩⟩
        rotate_right
        · by_cases e : c = b
          · subst e
            rw [show g'.O c = some (.htok S.htoks.length) from upd_same _ _ _] at hid
            cases hid
          · rw [hO c e] at hid; exact hf id hid
        · by_cases e : c = b
          · subst e
            rcases hi with hi | hi
            · rw [h2] at hi; cases hi
            · exact .inr hi
          · rcases hi with hi | hi
            · exact .inl ((hO c e).trans hi)
            · exact .inr hi
        · have e : c ≠ b := by rintro rfl; rw [h2] at hn'; cases hn'
          exact (hO c e).trans hn'
        · have e : c ≠ b := by rintro rfl; rw [h2] at ho; cases ho; exact hne rfl
          exact (hO c e).trans ho
      have t1 : TokTr F.toks (F.toks.set t none) g.ψ g'.ψ w w := by
        refine ⟨by simp, fun s m z hs hm => ?_⟩
        rw [set_get _ _ _ _ htl] at hm
        split at hm
        · cases hm
        · exact ⟨m, hm, .inr ⟨rfl, fun c hc => ⟨hc, rfl⟩⟩⟩
      have t2 : TokTr S.htoks (S.htoks ++ [some (n, sz)]) g.τ g'.τ w w := by
        refine ⟨by simp, fun s m z hs hm => ?_⟩
        rw [List.getElem?_append_left hs] at hm
        exact ⟨m, hm, .inr ⟨rfl, fun c hc => ⟨by
          show (g.τ ++ [b])[s]? = some c
          rw [List.getElem?_append_left (List.getElem?_eq_some_iff.1 hc).1]; exact hc, rfl⟩⟩⟩
      have b1 : TokB g' .tok (F.toks.set t none) g'.ψ w := by
        intro s m z hm
        rw [set_get _ _ _ _ htl] at hm
        split at hm
        · cases hm
        · rename_i e
          obtain ⟨c, c1, c2, c3, c4⟩ := hF.toks s m z hm
          exact ⟨c, c1, (hO c (by rintro rfl; rw [h2] at c2; cases c2; exact e rfl)).trans c2, c3, c4⟩
      have b2 : TokB g' .htok (S.htoks ++ [some (n, sz)]) g'.τ w := by
        intro s m z hm
        by_cases hs : s < S.htoks.length
        · rw [List.getElem?_append_left hs] at hm
          obtain ⟨c, c1, c2, c3, c4⟩ := hS.toks s m z hm
          refine ⟨c, ?_, (hO c (by rintro rfl; rw [h2] at c2; cases c2)).trans c2, c3, c4⟩
          show (g.τ ++ [b])[s]? = some c
          rw [List.getElem?_append_left (List.getElem?_eq_some_iff.1 c1).1]; exact c1
        · rw [List.getElem?_append_right (Nat.not_lt.1 hs)] at hm
          have : s - S.htoks.length = 0 := by have := (List.getElem?_eq_some_iff.1 hm).1; simpa using this
          have hs' : s = S.htoks.length := by omega
          subst hs'
          simp at hm
          obtain ⟨rfl, rfl⟩ := hm
          refine ⟨b, ?_, by show upd _ _ _ _ = _; simp, h3, h4⟩
          show (g.τ ++ [b])[S.htoks.length]? = some b
          rw [← hS.tau, List.getElem?_append_right (Nat.le_refl _)]; simp
      refine ⟨g', ⟨hF.keep tr (fun s h => by cases h) t1 t2 b1 (by simp; exact hF.psi), hS.keep tr (fun s h => by cases h) rfl t2 b2 (by show (g.τ ++ [b]).length = _; simp [hS.tau]), tr.weaken (by rintro o rfl h; cases h), t2⟩, ?_, trivial, rfl, rfl, rfl, ?_, ?_⟩
      · refine ⟨by simp, fun m z hm => ?_⟩
        simp at hm
        obtain ⟨rfl, rfl⟩ := hm
        obtain ⟨m, q1, q2, q3⟩ := hk.2 n sz hn
        refine ⟨m, q1, q2, fun e => ?_⟩
        obtain ⟨e', vals, c, o1, o2, o3⟩ := q3 e
        rw [h1] at o2; cases o2
        refine ⟨e', vals, b, o1, ?_, o3⟩
        show (g.τ ++ [b])[S.htoks.length]? = some b
        rw [← hS.tau, List.getElem?_append_right (Nat.le_refl _)]; simp
      · intro c o ho
        exact ⟨(hO c (by rintro rfl; rw [h2] at ho; cases ho)).trans ho, rfl⟩
      · intro c o ho
        exact ⟨(hO c (by rintro rfl; rw [h2] at ho; cases ho)).trans ho, rfl⟩
    · cases h
      exact same (.inr rfl) rfl rfl trivial
  · rename_i hne
    cases h
    refine same (.inl rfl) rfl rfl ?_
    cases k with
    | none => trivial
    | some k => cases k with
      | loc t => exact absurd rfl (hne t)
      | full => trivial
      | hp t => trivial
end
end Go.Abs
namespace Go.Abs
section
variable {P : Program} {g g' : Gh} {F : Fr} {S : St} {w w' : World} {a : Act}
theorem oneCell_cells {v : Value} (h : v.oneCell' = true) : v.cells = #[v] := by cases v <;> first | rfl | cases h
theorem newCells_sound {ht : Toks} {x : SV} {agg : Bool} {n : Nat} {new : List Cell} {v : Value} (hx : OpdR g F ht w a x v) (h : newCells x agg n = some new) :
    v.cells.size = n ∧ new.length = n ∧ CellsR g F.toks ht w new v.cells.toList := by
  unfold newCells at h
  split at h
  · obtain ⟨cs, hcs, rfl⟩ := Option.map_eq_some_iff.1 h
    obtain ⟨hok, rfl⟩ := asCells_some hcs
    cases x with
    | v y k =>
      have := CsR.of hx.1 hok
      obtain ⟨h1, _, _⟩ := hx.1.cells hok
      exact ⟨h1, by simp [proj_length], this.cells⟩
    | lp s o => simp [SV.pv, PV.okCells, PV.one] at hok
    | box cs => simp [SV.pv, PV.okCells, PV.one] at hok
  · split at h
    · rename_i y k
      obtain ⟨u, hu, rfl⟩ := Option.map_eq_some_iff.1 h
      have hu := chk_some hu
      simp only [Bool.and_eq_true, beq_iff_eq] at hu
      obtain ⟨h1, rfl⟩ := hu
      have ho := hx.1.one h1
      rw [oneCell_cells ho]
      refine ⟨rfl, rfl, rfl, fun i c hc => ?_⟩
      cases i with
      | zero => simp at hc; subst hc; exact ⟨hx.1, hx.2, ho⟩
      | succ i => simp at hc
    · cases h
theorem CellsR.one {ft ht : Toks} {cs : List Cell} {arr : List Value} (h : CellsR g ft ht w cs arr) : ∀ v ∈ arr, v.oneCell' = true := by
  intro v hv
  obtain ⟨i, hi, rfl⟩ := List.getElem_of_mem hv
  have hl : i < cs.length := by rw [← h.1]; exact hi
  have := (h.2 i cs[i] (List.getElem?_eq_getElem hl)).2.2
  simpa [hi] using this
theorem setCells_get {cs new : List Cell} {off i : Nat} (h : off + new.length ≤ cs.length) :
    (setCells cs off new)[i]? = if off ≤ i ∧ i < off + new.length then new[i - off]? else cs[i]? := by
  unfold setCells
  by_cases h1 : i < off
  · rw [if_neg (by omega), List.append_assoc, List.getElem?_append_left (by simp; omega), List.getElem?_take_of_lt h1]
  · by_cases h2 : i < off + new.length
    · rw [if_pos (by omega), List.getElem?_append_left (by simp; omega), List.getElem?_append_right (by simp; omega)]
      congr 1
      simp; omega
    · rw [if_neg (by omega), List.getElem?_append_right (by simp; omega), List.getElem?_drop]
      congr 1
      simp; omega
theorem setCells_length {cs new : List Cell} {off : Nat} (h : off + new.length ≤ cs.length) : (setCells cs off new).length = cs.length := by
  unfold setCells; simp; omega
theorem store_block {t : TypeId} {n off b : Nat} {v : Value} {cur : Array Value} {ty : TypeId} (hn : szOf P t = some n) (hv : v.cells.size = n) (h1 : ∀ u ∈ v.cells.toList, u.oneCell' = true)
    (hb : w.heap[b]? = some (.cells cur ty (0, 0))) (hle : off + n ≤ cur.size) :
    ∃ arr, (Instr.storeAt t (.pointer (some ⟨b, off, none⟩)) v).run P w = .ok () (w.setRow b arr) ∧ (w.setRow b arr).heap[b]? = some (.cells arr ty (0, 0)) ∧ arr.size = cur.size ∧
      ∀ i, arr.getD i Go.undef = if off ≤ i ∧ i < off + n then v.cells.getD (i - off) Go.undef else cur.getD i Go.undef := by
  refine ⟨(cur.toList.take (off + 0) ++ v.cells.toList ++ cur.toList.drop (off + 0 + v.cells.toList.length)).toArray, ?_, setRow_heap w b cur _ ty (0, 0) hb, ?_, fun i => ?_⟩
  · have hst := run_storeCells_at P b off ty v.cells.toList 0 cur w hb (by simp; omega) h1
    simp only [Instr.storeAt, Instr.sureAddr, Sem.run_bind, Sem.run_pure, Result.andThen_ok, storeVar, sizeOf_run hn]
    rw [if_neg (by simp [hv])]
    exact hst
  · simp [hv]; omega
  · simp only [Nat.add_zero, Array.length_toList, hv, Array.getD_eq_getD_getElem?, List.getElem?_toArray]
    by_cases h1 : i < off
    · rw [if_neg (by omega), List.append_assoc, List.getElem?_append_left (by simp; omega), List.getElem?_take_of_lt h1]; simp
    · by_cases h2 : i < off + n
      · rw [if_pos (by omega), List.getElem?_append_left (by simp; omega), List.getElem?_append_right (by simp; omega)]
        simp only [List.length_take, Array.length_toList, Nat.min_eq_left (show off ≤ cur.size by omega)]
        simp
      · rw [if_neg (by omega), List.getElem?_append_right (by simp; omega), List.getElem?_drop]
        have e : off + n + (i - (cur.toList.take off ++ v.cells.toList).length) = i := by simp; omega
        rw [e]; simp
theorem block_after {ft ht : Toks} {cs new : List Cell} {off n b : Nat} {v : Value} {cur arr : Array Value} {ty : TypeId} (hnew : CellsR g ft ht w new v.cells.toList) (hl : new.length = n)
    (hB : w.heap[b]? = some (.cells cur ty (0, 0)) ∧ cur.size = cs.length ∧ ∀ i c, cs[i]? = some c → CellR g ft ht w c (cur.getD i Go.undef)) (hle : off + n ≤ cs.length)
    (ha : w'.heap[b]? = some (.cells arr ty (0, 0))) (hs : arr.size = cur.size) (hget : ∀ i, arr.getD i Go.undef = if off ≤ i ∧ i < off + n then v.cells.getD (i - off) Go.undef else cur.getD i Go.undef)
    (keep : ∀ c v, CellR g ft ht w c v → CellR g ft ht w' c v) : BlockR g ft ht w' b (setCells cs off new) := by
  refine ⟨arr, ty, ha, by rw [setCells_length (by omega), hs, hB.2.1], fun i c hc => keep _ _ ?_⟩
  rw [setCells_get (by omega)] at hc
  rw [hget i]
  rw [hl] at hc
  split at hc
  · rename_i hi
    rw [if_pos hi]
    have := hnew.2 _ _ hc
    simpa [Array.getD_eq_getD_getElem?] using this
  · rename_i hi
    rw [if_neg hi]
    exact hB.2.2 i c hc
theorem CellR.toFr {ft ht : Toks} {c : Cell} {v : Value} (h : CellR g [] ht w c v) (hn : noLoc c.2) : CellR g ft ht w c v := by
  obtain ⟨h1, h2, h3⟩ := h
  refine ⟨h1, ?_, h3⟩
  obtain ⟨c1, c2⟩ := c
  cases c2 with
  | none => trivial
  | some k => cases k with
    | full => exact h2
    | loc t => cases hn
    | hp t => exact h2
theorem CellR.toObj {ft ht : Toks} {c : Cell} {v : Value} (h : CellR g ft ht w c v) (hn : noLoc c.2) : CellR g [] ht w c v := by
  obtain ⟨h1, h2, h3⟩ := h
  refine ⟨h1, ?_, h3⟩
  obtain ⟨c1, c2⟩ := c
  cases c2 with
  | none => trivial
  | some k => cases k with
    | full => exact h2
    | loc t => cases hn
    | hp t => exact h2
theorem setCells_noLoc {cs new : List Cell} {off : Nat} (h : ∀ c ∈ cs, noLoc c.2) (h' : ∀ c ∈ new, noLoc c.2) : ∀ c ∈ setCells cs off new, noLoc c.2 := by
  intro c hc
  unfold setCells at hc
  rcases List.mem_append.1 hc with hc | hc
  · rcases List.mem_append.1 hc with hc | hc
    · exact h c (List.mem_of_mem_take hc)
    · exact h' c hc
  · exact h c (List.mem_of_mem_drop hc)
theorem sto_sound {t : TypeId} {n : Nat} {p x : SV} {pv xv : Value} {F' : Fr} {S' : St} (hF : FrR g F S.htoks w a) (hS : StR g S w) (hp : OpdR g F S.htoks w a p pv) (hx : OpdR g F S.htoks w a x xv)
    (hn : szOf P t = some n) (h : sto F S (aggOf P t) n p x = some (F', S')) : ∃ w' g', (Instr.storeAt t pv xv).run P w = .ok () w' ∧ After g S w F' S' a w' g' := by
  unfold sto at h
  obtain ⟨new, hnew, h⟩ := Option.bind_eq_some_iff.1 h
  obtain ⟨hv, hl, hc⟩ := newCells_sound hx hnew
  cases p with
  | box cs => cases hp
  | lp s off =>
    simp only at h
    cases hb : F.get s with
    | v y k => rw [hb] at h; cases h
    | lp s' o' => rw [hb] at h; cases h
    | box cs =>
      rw [hb] at h
      simp only at h
      split at h
      · rename_i hle
        cases h
        have hb' := env_getV hb (by simp)
        obtain ⟨b, rfl, hs⟩ := hp cs hb'
        obtain ⟨b', h1, hO, hM, cur, ty, hB⟩ := hF.boxes s cs hb'
        rw [hs] at h1; cases h1
        obtain ⟨arr, hr, ha, hsz, hget⟩ := store_block hn hv hc.one hB.1 (by rw [hB.2.1]; exact hle)
        have hput := Put1.setRow w b arr
        have tr := hput.tr hO hM
        have t1 := hput.tok (own := .tok) hF.toks (fun t' h => by rw [hO] at h; cases h)
        have t2 := hput.tok (own := .htok) hS.toks (fun t' h => by rw [hO] at h; cases h)
        have hblk : BlockR g F.toks S.htoks (w.setRow b arr) b (setCells cs off new) := block_after hc hl hB hle ha hsz hget (fun c v hc => hc.keep tr t1 t2)
        exact ⟨_, g, hr, after_store_box hF hS hput hb' hs hO hM hblk⟩
      · cases h
  | v y k =>
    cases y with
    | ref id off =>
      simp only at h
      cases hob : S.objs[id]? with
      | none => rw [hob] at h; cases h
      | some ob =>
        rw [hob] at h
        cases ob with
        | map es => cases h
        | dead => cases h
        | blk => cases h
        | bld _ _ _ => cases h
        | cells cs =>
          simp only at h
          split at h
          · rename_i hle
            obtain ⟨⟨b, hσ, hO, hM, cur, ty, hB⟩, hnl⟩ := hS.cells id cs hob
            cases hp.1 with
            | ref _ _ b' hb' =>
              rw [hσ] at hb'; cases hb'
              obtain ⟨arr, hr, ha, hsz, hget⟩ := store_block hn hv hc.one hB.1 (by rw [hB.2.1]; exact hle)
              have hput := Put1.setRow w b arr
              split at h
              · rename_i hagg
                cases h
                unfold newCells at hnew
                rw [if_pos hagg] at hnew
                obtain ⟨ps, _, rfl⟩ := Option.map_eq_some_iff.1 hnew
                have hn0 : ∀ c ∈ ps.map (fun c => ((c, none) : Cell)), noLoc c.2 := fun c hc => by
                  obtain ⟨y, _, rfl⟩ := List.mem_map.1 hc; trivial
                have tr := hput.tr hO hM
                have t2 := hput.tok (own := .htok) hS.toks (fun t' h => by rw [hO] at h; cases h)
                have hnil : TokTr [] [] g.ψ g.ψ w (w.setRow b arr) := ⟨Nat.le_refl _, fun t n sz ht => by simp at ht⟩
                have hc' : CellsR g [] S.htoks w (ps.map fun c => (c, none)) xv.cells.toList := ⟨hc.1, fun i c hi => (hc.2 i c hi).toObj (hn0 c (List.mem_of_getElem? hi))⟩
                have hblk : BlockR g [] S.htoks (w.setRow b arr) b (setCells cs off (ps.map fun c => (c, none))) := block_after hc' hl hB hle ha hsz hget (fun c v hc => hc.keep tr hnil t2)
                exact ⟨_, g, hr, after_store_obj hF hS hput hσ hO hM (by simp) (by simp) (fun cs' e => by cases e; exact ⟨hblk, setCells_noLoc hnl hn0⟩) (fun es e => by cases e)⟩
              · split at h
                · rename_i y k1
                  rcases hth : toHeap F S y k1 with ⟨F1, S1, k'⟩
                  rw [hth] at h
                  cases h
                  have hcell := hc.2 0 (y, k1) rfl
                  have hv0 : xv.cells.toList.length = 1 := by rw [hc.1]; rfl
                  obtain ⟨g1, hA, hk', hnl', hobjs, henv, hσ1, _, hobj1⟩ := after_toHeap hF hS hcell.1 hcell.2.1 hth
                  obtain ⟨hO1, hM1⟩ := hobj1 b id hO
                  have hM1' := hM1.trans hM
                  have hσ' : g1.σ[id]? = some b := by rw [hσ1]; exact hσ
                  have hob1 : S1.objs[id]? = some (.cells cs) := by rw [hobjs]; exact hob
                  obtain ⟨⟨b2, h2, _, _, cur2, ty2, hB2⟩, _⟩ := hA.st.cells id cs hob1
                  rw [hσ'] at h2; cases h2
                  rw [hB.1] at hB2
                  obtain ⟨e1, hs2, hc2⟩ := hB2
                  cases e1
                  have tr := hput.tr hO1 hM1'
                  have t2 := hput.tok (own := .htok) hA.st.toks (fun t' h => by rw [hO1] at h; cases h)
                  have hnil : TokTr [] [] g1.ψ g1.ψ w (w.setRow b arr) := ⟨Nat.le_refl _, fun t n sz ht => by simp at ht⟩
                  have hc' : CellsR g1 [] S1.htoks w [(y, k')] xv.cells.toList := by
                    refine ⟨by rw [hv0]; rfl, fun i c hi => ?_⟩
                    cases i with
                    | zero =>
                      simp at hi; subst hi
                      have : CellR g1 F1.toks S1.htoks w (y, k') (xv.cells.toList.getD 0 Go.undef) := ⟨hA.tr.vr hcell.1, hk', hcell.2.2⟩
                      exact this.toObj hnl'
                    | succ i => simp at hi
                  have hl' : ([(y, k')] : List Cell).length = n := by rw [← hl]; rfl
                  have hblk : BlockR g1 [] S1.htoks (w.setRow b arr) b (setCells cs off [(y, k')]) := block_after hc' hl' ⟨hB.1, hs2, hc2⟩ hle ha hsz hget (fun c v hc => hc.keep tr hnil t2)
                  have hn1 : ∀ c ∈ [((y, k') : Cell)], noLoc c.2 := by intro c hc; simp at hc; subst hc; exact hnl'
                  have hAO := after_store_obj (ob := .cells (setCells cs off [(y, k')])) hA.fr hA.st hput hσ' hO1 hM1' (by simp) (by simp) (fun cs' e => by cases e; exact ⟨hblk, setCells_noLoc hnl hn1⟩) (fun es e => by cases e)
                  exact ⟨_, g1, hr, hA.trans hAO⟩
                · cases h
          · cases h
    | _ => simp only at h; cases h
end
end Go.Abs
namespace Go.Abs
section
variable {P : Program} {g g' : Gh} {F : Fr} {S : St} {w w' : World} {a : Act}
theorem samePtr_true {x y : PV} {v u : Value} (hx : g.VR w x v) (hy : g.VR w y u) (h : samePtrS S x y = some true) : ∃ p, v = .pointer p ∧ u = .pointer p := by
  cases hx with
  | ip a' cs bk o gv ha hc hv =>
    cases hy with
    | ip a'' cs' bk' o' gv' ha' hc' hv' =>
      rcases ha with rfl | ⟨rfl, hp⟩ | ⟨i, rfl, hi⟩
      · simp [samePtrS, samePtr] at h
      · rcases ha' with rfl | ⟨rfl, hp'⟩ | ⟨j, rfl, hj⟩
        · simp [samePtrS, samePtr] at h
        · simp [samePtrS, samePtr] at h
          exact ⟨_, rfl, by rw [h.1, h.2]⟩
        · simp [samePtrS, samePtr] at h
      · rcases ha' with rfl | ⟨rfl, hp'⟩ | ⟨j, rfl, hj⟩
        · simp [samePtrS, samePtr] at h
        · simp [samePtrS, samePtr] at h
        · simp only [samePtrS] at h
          split at h
          · rename_i e; subst e
            rw [hi] at hj; cases hj
            simp at h; subst h
            exact ⟨_, rfl, rfl⟩
          · split at h <;> simp at h
    | ref j q bk' hb' => cases cs <;> simp [samePtrS, samePtr] at h <;> (rcases ha with rfl | ⟨rfl, hp⟩ | ⟨i, rfl, hi⟩ <;> simp [samePtrS, samePtr] at h)
    | _ => rcases ha with rfl | ⟨rfl, hp⟩ | ⟨i, rfl, hi⟩ <;> simp [samePtrS, samePtr] at h
  | ref i p bk hb =>
    cases hy with
    | ref j q bk' hb' =>
      simp only [samePtrS] at h
      split at h
      · rename_i e; subst e
        rw [hb] at hb'; cases hb'
        simp at h; subst h
        exact ⟨_, rfl, rfl⟩
      · split at h <;> simp at h
    | ip a'' cs' bk' o' gv' ha' hc' hv' => cases cs' <;> simp [samePtrS, samePtr] at h <;> (rcases ha' with rfl | ⟨rfl, hp⟩ | ⟨j, rfl, hj⟩ <;> simp [samePtrS, samePtr] at h)
    | _ => simp [samePtrS, samePtr] at h
  | _ => cases hy <;> simp [samePtrS, samePtr] at h
theorem keyEq_bits {t : TypeId} {x y : PV} {v u : Value} {n : Nat} (hx : g.VR w x v) (hy : g.VR w y u) (h : keyEq P S t x y = some true) : Instr.sameBits n u v = true := by
  unfold keyEq at h
  split at h
  · split at h
    · split at h
      · rename_i e; subst e
        simp at h; subst h
        cases hx; cases hy
        cases n <;> simp [Instr.sameBits]
      · cases h
    · cases h
  · split at h
    · rename_i c d
      simp only [Option.some.injEq] at h
      cases hx; cases hy
      have : (d == c) = true := by
        rw [beq_toListBytes] at h ⊢
        rw [beq_iff_eq] at h ⊢
        exact h.symm
      cases n <;> simp only [Instr.sameBits, this]
    · cases h
  · split at h
    · simp at h; subst h
      cases hx; cases hy
      cases n <;> simp [Instr.sameBits]
    · cases h
  · split at h
    · obtain ⟨p, rfl, rfl⟩ := samePtr_true hx hy h
      cases n <;> simp [Instr.sameBits]
    · cases h
  · cases h
theorem keysEq_bits {n : Nat} : ∀ (ts : List TypeId) (xs ys : List PV) (vs us : List Value), vs.length = xs.length → us.length = ys.length → (∀ i, i < xs.length → g.VR w (xs.getD i .undef) (vs.getD i Go.undef)) →
    (∀ i, i < ys.length → g.VR w (ys.getD i .undef) (us.getD i Go.undef)) → keysEq P S ts xs ys = some true → us.length = vs.length ∧ ((us.zip vs).all fun p => Instr.sameBits n p.1 p.2) = true
  | [], [], [], vs, us, h1, h2, _, _, _ => by
    have e1 : vs = [] := List.eq_nil_of_length_eq_zero h1
    have e2 : us = [] := List.eq_nil_of_length_eq_zero h2
    subst e1; subst e2; simp
  | t :: ts, x :: xs, y :: ys, v :: vs, u :: us, h1, h2, hv, hu, h => by
    simp only [keysEq] at h
    obtain ⟨b1, hb1, h⟩ := Option.bind_eq_some_iff.1 h
    obtain ⟨b2, hb2, h⟩ := Option.map_eq_some_iff.1 h
    simp only [Bool.and_eq_true] at h
    obtain ⟨rfl, rfl⟩ := h
    have h0 : g.VR w x v := hv 0 (by simp)
    have h0' : g.VR w y u := hu 0 (by simp)
    obtain ⟨e1, e2⟩ := keysEq_bits (n := n) ts xs ys vs us (by simpa using h1) (by simpa using h2) (fun i hi => by have := hv (i + 1) (by simpa using hi); simpa using this) (fun i hi => by have := hu (i + 1) (by simpa using hi); simpa using this) hb2
    exact ⟨by simp [e1], by rw [List.zip_cons_cons, List.all_cons, e2, keyEq_bits h0 h0' hb1]; rfl⟩
  | [], _ :: _, _, _, _, _, _, _, _, h => by simp [keysEq] at h
  | [], [], _ :: _, _, _, _, _, _, _, h => by simp [keysEq] at h
  | _ :: _, [], _, _, _, _, _, _, _, h => by simp [keysEq] at h
  | _ :: _, _ :: _, [], _, _, _, _, _, _, h => by simp [keysEq] at h
  | _ :: _, _ :: _, _ :: _, [], _, h1, _, _, _, _ => by simp at h1
  | _ :: _, _ :: _, _ :: _, _ :: _, [], _, h2, _, _, _ => by simp at h2
theorem keyEqT_bits {t : TypeId} {x y : PV} {v u : Value} (hx : g.VR w x v) (hy : g.VR w y u) (h : keyEqT P S t x y = some true) : Instr.sameBits 10000 u v = true := by
  unfold keyEqT at h
  split at h
  · rename_i fs xs ys hu
    cases hx with
    | agg _ vs hl h1 hv =>
      cases hy with
      | agg _ us hl' h1' hv' =>
        obtain ⟨e1, e2⟩ := keysEq_bits (n := 9999) _ xs ys vs.toList us.toList (by simpa using hl.symm) (by simpa using hl'.symm) (fun i hi => by simpa [Array.getD_eq_getD_getElem?] using hv i hi) (fun i hi => by simpa [Array.getD_eq_getD_getElem?] using hv' i hi) h
        show Instr.sameBits (9999 + 1) _ _ = true
        rw [Instr.sameBits]
        simp only [Bool.and_eq_true, beq_iff_eq]
        exact ⟨by simpa using e1, e2⟩
  · cases h
  · exact keyEq_bits hx hy h
inductive Pos (P : Program) (S : St) (t : TypeId) (k : PV) : List (PV × PV) → Option Nat → Prop where
  | nil : Pos P S t k [] none
  | here (e : PV × PV) (es : List (PV × PV)) (h : keyEqT P S t k e.1 = some true) : Pos P S t k (e :: es) (some 0)
  | later (e : PV × PV) (es : List (PV × PV)) (q : Option Nat) (h : keyEqT P S t k e.1 = some false) (h' : Pos P S t k es q) : Pos P S t k (e :: es) (q.map (· + 1))
theorem setKey_pos {t : TypeId} {k v : PV} : ∀ (es es' : List (PV × PV)), setKey P S t k v es = some es' → ∃ q, Pos P S t k es q ∧ es' = match q with | some j => es.set j (k, v) | none => es ++ [(k, v)]
  | [], es', h => by cases h; exact ⟨none, .nil, rfl⟩
  | e :: es, es', h => by
    simp only [setKey] at h
    obtain ⟨b, hb, h⟩ := Option.bind_eq_some_iff.1 h
    cases b with
    | true => simp at h; subst h; exact ⟨some 0, .here e es hb, rfl⟩
    | false =>
      simp at h
      obtain ⟨es2, h2, rfl⟩ := h
      obtain ⟨q, hq, rfl⟩ := setKey_pos es es2 h2
      refine ⟨q.map (· + 1), .later e es q hb hq, ?_⟩
      cases q <;> rfl
theorem Pos.now {t : TypeId} {d : TypeDesc} {k : PV} {kv : Value} (hd : P.underlying t = some d) (hk : firstKind d = true) (hx : g.VR w k kv) {es : List (PV × PV)} {q : Option Nat} (hp : Pos P S t k es q) :
    ∀ (ms : List MapEntry) (i : Nat), EntsR g w es ms → Instr.findNow d kv ms i = some (q.map fun j => (i + j, (ms.getD j default).val)) := by
  induction hp with
  | nil => intro ms i h; cases ms with
    | nil => rfl
    | cons m ms => exact h.elim
  | here e es h => intro ms i hE; cases ms with
    | nil => exact hE.elim
    | cons m ms => simp [Instr.findNow, sameNow_key hd hk hx hE.1 h]
  | later e es q h h' ih => intro ms i hE; cases ms with
    | nil => exact hE.elim
    | cons m ms =>
      simp only [Instr.findNow, sameNow_key hd hk hx hE.1 h, ih ms (i + 1) hE.2.2]
      cases q with
      | none => rfl
      | some j => simp; omega
theorem Pos.asking {t : TypeId} {k : PV} {kv : Value} (hS : StR g S w) (hT : keyT P t = true) (hx : g.VR w k kv) {es : List (PV × PV)} {q : Option Nat} (hp : Pos P S t k es q) :
    ∀ (ms : List MapEntry) (i : Nat), EntsR g w es ms → (Instr.findAsking t kv ms i).run P w = .ok (q.map fun j => (i + j, (ms.getD j default).val)) w := by
  induction hp with
  | nil => intro ms i h; cases ms with
    | nil => rfl
    | cons m ms => exact h.elim
  | here e es h => intro ms i hE; cases ms with
    | nil => exact hE.elim
    | cons m ms =>
      have hs : (Op.equal t kv m.key).run P w = .ok true w := keyEqT_sound (d := 9998) hS hT hx hE.1 h
      simp [Instr.findAsking, hs]
  | later e es q h h' ih => intro ms i hE; cases ms with
    | nil => exact hE.elim
    | cons m ms =>
      have hs : (Op.equal t kv m.key).run P w = .ok false w := keyEqT_sound (d := 9998) hS hT hx hE.1 h
      have := ih ms (i + 1) hE.2.2
      simp only [Instr.findAsking, Sem.run_bind, hs, Result.andThen_ok, Bool.false_eq_true, if_false, this]
      cases q with
      | none => rfl
      | some j => simp; omega
theorem Pos.find {t : TypeId} {k : PV} {kv : Value} (hS : StR g S w) (hT : keyT P t = true) (hx : g.VR w k kv) {es : List (PV × PV)} {q : Option Nat} (hp : Pos P S t k es q) {ms : List MapEntry} (hE : EntsR g w es ms) :
    (Instr.findKey t kv ms).run P w = .ok (q.map fun j => (j, (ms.getD j default).val)) w := by
  have hd : ∃ d, P.underlying t = some d := by
    unfold keyT keyT1 at hT
    cases hu : P.underlying t with
    | none => rw [hu] at hT; cases hT
    | some d => exact ⟨d, rfl⟩
  obtain ⟨d, hd⟩ := hd
  cases hf : firstKind d with
  | true =>
    have := hp.now hd hf hx ms 0 hE
    simp only [Nat.zero_add] at this
    simp [Instr.findKey, run_underlying hd, this]
  | false =>
    have := hp.asking hS hT hx ms 0 hE
    simp only [Nat.zero_add] at this
    simp only [Instr.findKey, Sem.run_bind, run_underlying hd, Result.andThen_ok]
    cases ms with
    | nil =>
      cases es with
      | nil => cases hp; simp [Instr.findNow]
      | cons e es => exact hE.elim
    | cons m ms => simp [Instr.findNow, sameNow_none _ _ hf, this]
theorem Pos.lt {t : TypeId} {k : PV} {es : List (PV × PV)} {j : Nat} (hp : Pos P S t k es (some j)) : ∃ e, es[j]? = some e ∧ keyEqT P S t k e.1 = some true := by
  generalize hq : some j = q at hp
  induction hp generalizing j with
  | nil => cases hq
  | here e es h => cases hq; exact ⟨e, rfl, h⟩
  | later e es q h h' ih =>
    cases q with
    | none => cases hq
    | some i =>
      simp at hq; subst hq
      obtain ⟨e', h1, h2⟩ := ih rfl
      exact ⟨e', by simpa using h1, h2⟩
theorem EntsR.get : ∀ {es : List (PV × PV)} {ms : List MapEntry}, EntsR g w es ms → ms.length = es.length ∧ ∀ (i : Nat) e, es[i]? = some e → g.VR w e.1 (ms.getD i default).key ∧ g.VR w e.2 (ms.getD i default).val
  | [], [], _ => ⟨rfl, fun i e h => by simp at h⟩
  | e :: es, m :: ms, ⟨h1, h2, h3⟩ => by
    obtain ⟨a1, a2⟩ := EntsR.get h3
    refine ⟨by simp [a1], fun i e' h => ?_⟩
    cases i with
    | zero => simp at h; subst h; exact ⟨h1, h2⟩
    | succ i => have := a2 i e' (by simpa using h); simpa using this
  | [], _ :: _, h => h.elim
  | _ :: _, [], h => h.elim
theorem mapUpdate_sound {t kt et : TypeId} {id : Nat} {k v : PV} {mv kv vv : Value} {es es' : List (PV × PV)} (hF : FrR g F S.htoks w a) (hS : StR g S w) (hm : mapOf P t = some (kt, et)) (hM : g.VR w (.mp id) mv) (hK : g.VR w k kv) (hV : g.VR w v vv)
    (hok : keyOk P kt k = true) (hes : S.objs[id]? = some (.map es)) (hs : setKey P S kt k v es = some es') :
    ∃ w', (Instr.mapUpdate t mv kv vv).run P w = .ok () w' ∧ After g S w F { S with objs := S.objs.set id (.map es') } a w' g := by
  obtain ⟨hu, hT⟩ := mapOf_some hm
  obtain ⟨b, ents, clock, h1, hO, h3, h4, h5⟩ := hS.maps id es hes
  cases hM with
  | mp _ b' hb' =>
    rw [h1] at hb'; cases hb'
    have hE : EntsR g w es ents.toList := by
      rcases mapEs_sound (x := .mp id) (es := es) hS (.mp id b h1) (by simp [mapEs, hes]) with ⟨e, _⟩ | ⟨b2, ents2, clock2, e, h3', _, hE⟩
      · cases e
      · cases e; rw [h3] at h3'; cases h3'; exact hE
    have hck : (Instr.checkKey false 10000 kt kv).run P w = .ok () w := checkKey_sound (n := 9998) hT (keyOk_agg hK hok)
    have hg : (getObj b).run P w = .ok (.map ents clock) w := by simp [getObj, Sem.run, h3]
    have hset : ∀ o, (setObj b o).run P w = .ok () { w with heap := w.heap.setIfInBounds b o } := fun o => by simp [setObj, Sem.run, h3]
    have hlt : b < w.heap.size := (Array.getElem?_eq_some_iff.1 h3).1
    have put : ∀ o, Put1 b w { w with heap := w.heap.setIfInBounds b o } := fun o =>
      ⟨rfl, rfl, rfl, by simp, fun c hc => by show (w.heap.setIfInBounds b o)[c]? = _; rw [Array.getElem?_setIfInBounds_ne (fun e => hc e.symm)], fun arr ty hb => by rw [h3] at hb; cases hb⟩
    have hnewb : ∀ o, ({ w with heap := w.heap.setIfInBounds b o } : World).heap[b]? = some o := fun o => by show (w.heap.setIfInBounds b o)[b]? = _; simp [hlt]
    obtain ⟨q, hq, hes'⟩ := setKey_pos es es' hs
    have hfind := hq.find hS hT hK hE
    have fin : ∀ ents' clock', (Instr.mapUpdate t (.map (some b)) kv vv).run P w = .ok () { w with heap := w.heap.setIfInBounds b (.map ents' clock') } → ents'.size = es'.length →
        (∀ (i : Nat) e, es'[i]? = some e → g.VR w e.1 (ents'.getD i default).key ∧ g.VR w e.2 (ents'.getD i default).val) →
        ∃ w', (Instr.mapUpdate t (.map (some b)) kv vv).run P w = .ok () w' ∧ After g S w F { S with objs := S.objs.set id (.map es') } a w' g := by
      intro ents' clock' hrun hsz hent
      have tr := (put (.map ents' clock')).tr hO.1 hO.2
      refine ⟨_, hrun, after_store_obj hF hS (put _) h1 hO.1 hO.2 (by simp) (by simp) (fun cs e => by cases e) (fun es2 e => ?_)⟩
      cases e
      exact ⟨ents', clock', hnewb _, hsz, fun i e he => ⟨tr.vr (hent i e he).1, tr.vr (hent i e he).2⟩⟩
    cases q with
    | none =>
      simp only at hes'
      refine fin (ents.push { key := kv, val := vv, born := clock }) (clock + 1) ?_ (by rw [hes']; simp [h4]) (fun i e he => ?_)
      · simp only [Instr.mapUpdate, Sem.run_bind, run_underlying hu, Result.andThen_ok, hg, hck, hfind, Option.map_none, hset]
      · rw [hes'] at he
        by_cases hi : i < es.length
        · rw [List.getElem?_append_left hi] at he
          have := h5 i e he
          simpa [Array.getD_eq_getD_getElem?, Array.getElem?_push_lt, show i < ents.size by omega] using this
        · rw [List.getElem?_append_right (Nat.not_lt.1 hi)] at he
          have h0 : i - es.length = 0 := by have := (List.getElem?_eq_some_iff.1 he).1; simpa using this
          rw [h0] at he
          simp at he; subst he
          have hi' : i = ents.size := by omega
          subst hi'
          simpa [Array.getD_eq_getD_getElem?] using And.intro hK hV
    | some j =>
      simp only at hes'
      obtain ⟨ej, hej, hkej⟩ := hq.lt
      have hj : j < es.length := (List.getElem?_eq_some_iff.1 hej).1
      have hbits : Instr.sameBits 10000 (ents.getD j default).key kv = true := keyEqT_bits hK (h5 j ej hej).1 hkej
      have hstay : (Instr.keyThatStays ((((ents[j]?).map (·.key)).getD kv)) kv).run P w = .ok kv w := by
        have : ((ents[j]?).map (·.key)).getD kv = (ents.getD j default).key := by simp [Array.getD_eq_getD_getElem?, show j < ents.size by omega]
        rw [this]
        unfold Instr.keyThatStays
        rw [if_pos hbits]; rfl
      refine fin (ents.modify j fun e => { e with key := kv, val := vv }) clock ?_ (by rw [hes']; simp [h4]) (fun i e he => ?_)
      · simp only [Instr.mapUpdate, Sem.run_bind, run_underlying hu, Result.andThen_ok, hg, hck, hfind, Option.map_some, hstay, hset]
      · rw [hes', set_get _ _ _ _ hj] at he
        have hi : i < ents.size := by
          split at he
          · omega
          · have := (List.getElem?_eq_some_iff.1 he).1; omega
        split at he
        · rename_i e'; subst e'
          cases he
          simpa [Array.getD_eq_getD_getElem?, Array.getElem?_modify, Array.getElem_modify, hi] using And.intro hK hV
        · rename_i hne
          have := h5 i e he
          simpa [Array.getD_eq_getD_getElem?, Array.getElem?_modify, Array.getElem_modify, hi, show ¬ j = i from fun e => hne e.symm] using this
end
end Go.Abs
namespace Go.Abs
section
variable {P : Program} {g g' : Gh} {F : Fr} {S : St} {w w' : World} {a : Act}
theorem sl_list {x : Option AAd} {sz : Nat} {es : List PV} {v : Value} (h : g.VR w (.sl x sz es) v) :
    ∃ (p : Addr) (cap : Nat) (vals : List Value), v = .slice (some p) es.length cap ∧ es.length ≤ cap ∧ 0 < sz ∧ (∀ i, i < es.length → (es.getD i .undef).cells.length = sz) ∧ vals.length = es.length * sz ∧
      (∀ j u, vals[j]? = some u → w.cell? (p.add j) = some u ∧ g.imm p.block (p.off + j) ∧ u.oneCell' = true) ∧
      (∀ i j, i < es.length → j < sz → g.VR w ((es.getD i .undef).cell j) (vals.getD (i * sz + j) Go.undef)) := by
  cases h with
  | sl _ _ _ b o cap gv hsz ha hcap hl hc hv =>
    refine ⟨⟨b, o, none⟩, cap, (List.range (es.length * sz)).map gv, rfl, hcap, hsz, hl, by simp, fun j u hj => ?_, fun i j hi hj => ?_⟩
    · have hlt := (List.getElem?_eq_some_iff.1 hj).1
      simp only [List.length_map, List.length_range] at hlt
      simp [hlt] at hj
      subst hj
      rw [addr_add]
      exact hc j hlt
    · have hlt : i * sz + j < es.length * sz := by
        have : (i + 1) * sz ≤ es.length * sz := Nat.mul_le_mul_right _ hi
        rw [Nat.add_mul, Nat.one_mul] at this; omega
      have := hv i j hi hj
      simpa [hlt] using this
  | sl0 _ p hsz => exact ⟨p, 0, [], rfl, Nat.le_refl _, hsz, fun i hi => by simp at hi, by simp, fun j u hj => by simp at hj, fun i j hi => by simp at hi⟩
theorem sl_mk {sz : Nat} {es ys : List PV} {b cap : Nat} {vals news : List Value} (hsz : 0 < sz) (hl1 : ∀ i, i < es.length → (es.getD i .undef).cells.length = sz) (hl2 : ∀ i, i < ys.length → (ys.getD i .undef).cells.length = sz)
    (h1 : vals.length = es.length * sz) (h2 : news.length = ys.length * sz) (hcap : es.length + ys.length ≤ cap)
    (hc : ∀ j u, (vals ++ news)[j]? = some u → w'.cell? ⟨b, j, none⟩ = some u ∧ g'.imm b j ∧ u.oneCell' = true)
    (hv1 : ∀ i j, i < es.length → j < sz → g'.VR w' ((es.getD i .undef).cell j) (vals.getD (i * sz + j) Go.undef))
    (hv2 : ∀ i j, i < ys.length → j < sz → g'.VR w' ((ys.getD i .undef).cell j) (news.getD (i * sz + j) Go.undef)) :
    g'.VR w' (.sl none sz (es ++ ys)) (.slice (some ⟨b, 0, none⟩) (es.length + ys.length) cap) := by
  have hlen : (vals ++ news).length = (es.length + ys.length) * sz := by rw [List.length_append, h1, h2, Nat.add_mul]
  rw [← List.length_append] at hcap ⊢
  have get1 : ∀ i, i < es.length → (es ++ ys).getD i .undef = es.getD i .undef := fun i hi => by simp [List.getD_eq_getElem?_getD, List.getElem?_append_left hi]
  have get2 : ∀ i, ¬ i < es.length → (es ++ ys).getD i .undef = ys.getD (i - es.length) .undef := fun i hi => by simp [List.getD_eq_getElem?_getD, List.getElem?_append_right (Nat.not_lt.1 hi)]
  refine .sl none sz _ b 0 cap (fun j => (vals ++ news).getD j Go.undef) hsz (.inl rfl) hcap (fun i hi => ?_) (fun j hj => ?_) (fun i j hi hj => ?_)
  · by_cases h : i < es.length
    · rw [get1 i h]; exact hl1 i h
    · rw [get2 i h]; exact hl2 _ (by simp at hi; omega)
  · rw [List.length_append, ← hlen] at hj
    have := hc j (vals ++ news)[j] (List.getElem?_eq_getElem hj)
    rw [Nat.zero_add, List.getD_eq_getElem?_getD, List.getElem?_eq_getElem hj]
    exact this
  · by_cases h : i < es.length
    · rw [get1 i h]
      have hlt : i * sz + j < vals.length := by
        have : (i + 1) * sz ≤ es.length * sz := Nat.mul_le_mul_right _ h
        rw [Nat.add_mul, Nat.one_mul] at this; omega
      have := hv1 i j h hj
      simp only [List.getD_eq_getElem?_getD, List.getElem?_append_left hlt] at this ⊢
      exact this
    · rw [get2 i h]
      have e : i * sz + j - vals.length = (i - es.length) * sz + j := by
        have : es.length * sz ≤ i * sz := Nat.mul_le_mul_right _ (Nat.not_lt.1 h)
        rw [h1, Nat.sub_mul]; omega
      have hge : vals.length ≤ i * sz + j := by
        have : es.length * sz ≤ i * sz := Nat.mul_le_mul_right _ (Nat.not_lt.1 h)
        omega
      have := hv2 (i - es.length) j (by simp at hi; omega) hj
      simp only [List.getD_eq_getElem?_getD, List.getElem?_append_right hge, e] at this ⊢
      exact this
theorem zeroOk_some {t e : TypeId} {i : TypeInfo} (h : zeroOk P t = true) (hu : P.underlying t = some (.slice e)) (hi : P.info? e = some i) : ∃ z, i.zero = some z ∧ z.cells.size = i.size := by
  unfold zeroOk at h
  rw [hu] at h
  simp only at h
  cases hz : zeroPV P e with
  | none => rw [hz] at h; cases h
  | some x =>
    obtain ⟨i', zv, h1, h2, _, h4, h5, _⟩ := zeroPV_sound (g := ⟨[], [], [], fun _ => none, fun _ => 0⟩) (w := default) hz
    rw [hi] at h1; cases h1
    exact ⟨zv, h2, (h5.cells h4).1⟩
theorem append_room {t ty e e' : TypeId} {i : TypeInfo} (ht : P.underlying t = some (.slice e)) (hi : P.info? e = some i)
    {b sLen sCap : Nat} {cur : Array Value} (hg : w.heap[b]? = some (.cells cur e' (0, 0))) {ad : Addr} {m c : Nat} {news : List Value} (hl : news.length = m * i.size) (hnews : ∀ j u, news[j]? = some u → w.cell? (ad.add j) = some u)
    (h1 : ∀ u ∈ news, u.oneCell' = true) (hroom : sLen + m ≤ sCap) (hfit : sLen * i.size + news.length ≤ cur.size) :
    (Builtin.append_ #[t, t] ty #[.slice (some ⟨b, 0, none⟩) sLen sCap, .slice (some ad) m c]).run P w =
      .ok (.slice (some ⟨b, 0, none⟩) (sLen + m) sCap) (w.setRow b (cur.toList.take (sLen * i.size) ++ news ++ cur.toList.drop (sLen * i.size + news.length)).toArray) := by
  have hf := run_firstCells_some (P := P) w i.size m ad m c news hl hnews
  have hst := run_storeCells_at P b (sLen * i.size) e' news 0 cur w hg (by simpa using hfit) h1
  simp only [Nat.add_zero] at hst
  simp [Builtin.append_, run_underlying ht, sizeOf, typeInfo, hi, Builtin.lenOf, hroom, hf, Addr.add_lit, hst]
theorem room_tr {b n k : Nat} {o0 : Own} {arr cur : Array Value} {e' : TypeId} (hO : g.O b = some o0) (hM : g.M b = n) (hk : n ≤ k) (hcur : w.heap[b]? = some (.cells cur e' (0, 0)))
    (harr : ∀ j, j < n → arr[j]? = cur[j]?) : Tr (· = o0) g { g with M := upd g.M b k } w (w.setRow b arr) := by
  have hp := Put1.setRow w b arr
  have hnew := setRow_heap w b cur arr e' (0, 0) hcur
  refine ⟨hp.os, hp.tape, hp.output, Nat.le_of_eq hp.size, fun _ _ h => h, fun c o v hv hi => ?_, fun c hc hn => ⟨hn, hp.old c ?_⟩, fun c o hc ho hne => ?_, fun c arr2 ty hc hf => ⟨?_, hf⟩⟩
  rotate_right
  · by_cases e : c = b
    · subst e; exact hp.cz arr2 ty hc
    · exact ⟨arr2, (hp.old c e).trans hc⟩
  · by_cases e : c = b
    · subst e
      have hlt : o < n := by
        rcases hi with hi | hi
        · rw [hO] at hi; cases hi
        · rw [hM] at hi; exact hi
      refine ⟨?_, .inr (by show o < upd g.M c k c; simp; omega)⟩
      rw [cell_of_row _ c o arr e' (0, 0) hnew, harr o hlt]
      rw [cell_of_row _ c o cur e' (0, 0) hcur] at hv
      exact hv
    · refine ⟨?_, ?_⟩
      · rw [World.cell?_of_block (w := w) (a := ⟨c, o, none⟩) (hp.old c e)]; exact hv
      · rcases hi with hi | hi
        · exact .inl hi
        · exact .inr (by show o < upd g.M b k c; rw [upd_ne _ _ e]; exact hi)
  · rintro rfl; rw [hO] at hn; cases hn
  · have e : c ≠ b := by rintro rfl; rw [hO] at ho; cases ho; exact hne rfl
    exact ⟨ho, upd_ne _ _ e, hp.old c e⟩
theorem tok_set_room {own : Nat → Own} (hinj : ∀ s t, own s = own t → s = t) {ts : Toks} {bs : List Nat} {t n m sz b k : Nat} (hB : TokB g own ts bs w) (hp : Put1 b w w') (ht : ts[t]? = some (some (n, sz))) (hb : bs[t]? = some b)
    (hm : 0 < m) (hk : k = (n + m) * sz) :
    TokTr ts (ts.set t (some (n + m, sz))) bs bs w w' ∧ TokB { g with M := upd g.M b k } own (ts.set t (some (n + m, sz))) bs w' := by
  have htl : t < ts.length := (List.getElem?_eq_some_iff.1 ht).1
  obtain ⟨b0, h1, hOb, hMb, h4⟩ := hB t n sz ht
  rw [hb] at h1; cases h1
  have other : ∀ s c n' z, s ≠ t → ts[s]? = some (some (n', z)) → bs[s]? = some c → c ≠ b := by
    intro s c n' z hs hn hc e
    subst e
    obtain ⟨b1, q1, q2, _⟩ := hB s n' z hn
    rw [hc] at q1; cases q1
    rw [hOb] at q2
    exact hs (hinj _ _ (Option.some.inj q2.symm))
  refine ⟨⟨by simp, fun s n' z hs hn => ?_⟩, fun s n' z hn => ?_⟩
  · rw [set_get _ _ _ _ htl] at hn
    split at hn
    · rename_i e; subst e; cases hn
      exact ⟨n, ht, .inl (by omega)⟩
    · rename_i e
      exact ⟨n', hn, .inr ⟨rfl, fun c hc => ⟨hc, hp.old c (other s c n' z e hn hc)⟩⟩⟩
  · rw [set_get _ _ _ _ htl] at hn
    split at hn
    · rename_i e; subst e; cases hn
      exact ⟨b, hb, hOb, by show upd g.M b k b = _; simp [hk], by rw [← hp.size]; exact h4⟩
    · rename_i e
      obtain ⟨c, c1, c2, c3, c4⟩ := hB s n' z hn
      exact ⟨c, c1, c2, by show upd g.M b k c = _; rw [upd_ne _ _ (other s c n' z e hn c1)]; exact c3, by rw [← hp.size]; exact c4⟩
theorem tok_other_room {own : Nat → Own} {ts : Toks} {bs : List Nat} {b k : Nat} (hB : TokB g own ts bs w) (hp : Put1 b w w') (hne : ∀ t, g.O b ≠ some (own t)) : TokTr ts ts bs bs w w' ∧ TokB { g with M := upd g.M b k } own ts bs w' := by
  refine ⟨hp.tok hB hne, fun s n' z hn => ?_⟩
  obtain ⟨c, c1, c2, c3, c4⟩ := hB s n' z hn
  exact ⟨c, c1, c2, by show upd g.M b k c = _; rw [upd_ne _ _ (by rintro rfl; exact hne s c2)]; exact c3, by rw [← hp.size]; exact c4⟩
theorem tok_set_grow {own : Nat → Own} {ts : Toks} {bs bs' : List Nat} {t n m sz nb k : Nat} {z : Nat} (hB : TokB g own ts bs w) (hG : Grow w w') (hnb : nb = w.heap.size) (hnb' : nb < w'.heap.size) (ht : ts[t]? = some (some (n, z))) (hm : 0 < m) (hk : k = (n + m) * sz) (hz : z = sz)
    (hbs : bs' = bs.set t nb) (hlen : bs.length = ts.length) (hO : g'.O = upd g.O nb (some (own t))) (hM : g'.M = upd g.M nb k) :
    TokTr ts (ts.set t (some (n + m, sz))) bs bs' w w' ∧ TokB g' own (ts.set t (some (n + m, sz))) bs' w' := by
  subst hz
  have htl : t < ts.length := (List.getElem?_eq_some_iff.1 ht).1
  have htb : t < bs.length := by omega
  refine ⟨⟨by simp, fun s n' z hs hn => ?_⟩, fun s n' z hn => ?_⟩
  · rw [set_get _ _ _ _ htl] at hn
    split at hn
    · rename_i e; subst e; cases hn
      exact ⟨n, ht, .inl (by omega)⟩
    · rename_i e
      refine ⟨n', hn, .inr ⟨rfl, fun c hc => ⟨?_, ?_⟩⟩⟩
      · rw [hbs, set_get _ _ _ _ htb, if_neg e]; exact hc
      · obtain ⟨b1, q1, q2, _, q4⟩ := hB s n' z hn
        rw [hc] at q1; cases q1
        exact hG.old _ q4
  · rw [set_get _ _ _ _ htl] at hn
    rw [hbs, set_get _ _ _ _ htb, hO, hM]
    split at hn
    · rename_i e; subst e; cases hn
      exact ⟨nb, by rw [if_pos rfl], by simp, by simp [hk], hnb'⟩
    · rename_i e
      obtain ⟨c, c1, c2, c3, c4⟩ := hB s n' z hn
      have hne : c ≠ nb := by omega
      exact ⟨c, by rw [if_neg e]; exact c1, by rw [upd_ne _ _ hne]; exact c2, by rw [upd_ne _ _ hne]; exact c3, Nat.lt_of_lt_of_le c4 hG.size⟩
theorem tok_new_grow {own : Nat → Own} {ts : Toks} {bs bs' : List Nat} {n sz nb k : Nat} (hB : TokB g own ts bs w) (hG : Grow w w') (hnb : nb = w.heap.size) (hnb' : nb < w'.heap.size) (hk : k = n * sz)
    (hbs : bs' = bs ++ [nb]) (hlen : bs.length = ts.length) (hO : g'.O = upd g.O nb (some (own ts.length))) (hM : g'.M = upd g.M nb k) :
    TokTr ts (ts ++ [some (n, sz)]) bs bs' w w' ∧ TokB g' own (ts ++ [some (n, sz)]) bs' w' := by
  refine ⟨⟨by simp, fun s n' z hs hn => ?_⟩, fun s n' z hn => ?_⟩
  · rw [List.getElem?_append_left hs] at hn
    refine ⟨n', hn, .inr ⟨rfl, fun c hc => ⟨?_, ?_⟩⟩⟩
    · rw [hbs, List.getElem?_append_left (List.getElem?_eq_some_iff.1 hc).1]; exact hc
    · obtain ⟨b1, q1, q2, _, q4⟩ := hB s n' z hn
      rw [hc] at q1; cases q1
      exact hG.old _ q4
  · rw [hbs, hO, hM]
    by_cases hs : s < ts.length
    · rw [List.getElem?_append_left hs] at hn
      obtain ⟨c, c1, c2, c3, c4⟩ := hB s n' z hn
      have hne : c ≠ nb := by omega
      exact ⟨c, by rw [List.getElem?_append_left (List.getElem?_eq_some_iff.1 c1).1]; exact c1, by rw [upd_ne _ _ hne]; exact c2, by rw [upd_ne _ _ hne]; exact c3, Nat.lt_of_lt_of_le c4 hG.size⟩
    · rw [List.getElem?_append_right (Nat.not_lt.1 hs)] at hn
      have : s - ts.length = 0 := by have := (List.getElem?_eq_some_iff.1 hn).1; simpa using this
      have hs' : s = ts.length := by omega
      subst hs'
      simp at hn
      obtain ⟨rfl, rfl⟩ := hn
      exact ⟨nb, by rw [← hlen, List.getElem?_append_right (Nat.le_refl _)]; simp, by simp, by simp [hk], hnb'⟩
theorem tok_other_grow {own : Nat → Own} {ts : Toks} {bs : List Nat} {nb k : Nat} {o : Own} (hB : TokB g own ts bs w) (hG : Grow w w') (hnb : nb = w.heap.size) (hO : g'.O = upd g.O nb (some o)) (hM : g'.M = upd g.M nb k) :
    TokTr ts ts bs bs w w' ∧ TokB g' own ts bs w' := by
  have hO' : ∀ b, b < w.heap.size → g'.O b = g.O b ∧ g'.M b = g.M b := fun b hb => ⟨by rw [hO, upd_ne _ _ (by omega)], by rw [hM, upd_ne _ _ (by omega)]⟩
  exact ⟨hG.tok hB, hG.tokB hO' hB⟩
theorem after_toks {ch : Own → Prop} {ts' hs' : Toks} (hF : FrR g F S.htoks w a) (hS : StR g S w) (t : Tr ch g g' w w') (hch : ∀ o, ch o → (∃ t, o = .tok t) ∨ ∃ t, o = .htok t) (hσ : g'.σ = g.σ)
    (h1 : TokTr F.toks ts' g.ψ g'.ψ w w' ∧ TokB g' .tok ts' g'.ψ w') (h2 : TokTr S.htoks hs' g.τ g'.τ w w' ∧ TokB g' .htok hs' g'.τ w') (h3 : g'.ψ.length = ts'.length) (h4 : g'.τ.length = hs'.length) :
    After g S w { F with toks := ts' } { S with htoks := hs' } a w' g' := by
  refine ⟨hF.keep t (fun s h => ?_) h1.1 h2.1 h1.2 h3, hS.keep t (fun s h => ?_) hσ h2.1 h2.2 h4, t.weaken (fun o h e => ?_), h2.1⟩
  · rcases hch _ h with ⟨_, h⟩ | ⟨_, h⟩ <;> cases h
  · rcases hch _ h with ⟨_, h⟩ | ⟨_, h⟩ <;> cases h
  · rcases hch _ h with ⟨_, h⟩ | ⟨_, h⟩ <;> rw [h] at e <;> cases e
end
end Go.Abs
namespace Go.Abs
section
variable {P : Program} {g g' : Gh} {F : Fr} {S : St} {w w' : World} {a : Act}
def AdF (g' : Gh) (w w' : World) (xv : Value) (kx : Option Tk) (n0 : Nat) (y : PV) (v' : Value) : Prop := ∀ sz es, y = .sl none sz es → es.length ≠ n0 →
  ∃ b cap arr ty, v' = .slice (some ⟨b, 0, none⟩) es.length cap ∧ w'.heap[b]? = some (.cells arr ty (0, 0)) ∧ Free g' b ∧ (w.heap.size ≤ b ∨ (xv.ownBlock = some b ∧ kx ≠ some .full))
def AppR (P : Program) (g : Gh) (S : St) (w : World) (a : Act) (t u ty : TypeId) (kx : Option Tk) (n0 : Nat) (xv yv : Value) (sv : SV) (F' : Fr) (S' : St) : Prop :=
  ∃ v' w' g', (Builtin.append_ #[t, u] ty #[xv, yv]).run P w = .ok v' w' ∧ After g S w F' S' a w' g' ∧ ∃ y k, sv = .v y k ∧ g'.VR w' y v' ∧ TkR g' F'.toks S'.htoks w' k y v' ∧ AdF g' w w' xv kx n0 y v'
theorem append_nothing {t e ty : TypeId} {i : TypeInfo} (hu : P.underlying t = some (.slice e)) (hi : P.info? e = some i) {base : Option Addr} {n c : Nat} (hnc : n ≤ c) {yb : Option Addr} {yc : Nat} :
    (Builtin.append_ #[t, t] ty #[.slice base n c, .slice yb 0 yc]).run P w = .ok (.slice base n c) w := by
  have hf : (Builtin.firstCells i.size 0 (.slice yb 0 yc)).run P w = .ok #[] w := by
    cases yb <;> simp [Builtin.firstCells, loadCells, loadCellsFrom]
  cases base with
  | none => simp [Builtin.append_, run_underlying hu, sizeOf, typeInfo, hi, Builtin.lenOf, hnc, hf]
  | some ad => simp [Builtin.append_, run_underlying hu, sizeOf, typeInfo, hi, Builtin.lenOf, hnc, hf, storeCells]
structure AppIn (P : Program) (g : Gh) (w : World) (t u e : TypeId) (i : TypeInfo) (z : Value) (es ys : List PV) (yv : Value) (news : List Value) : Prop where
  hu : P.underlying t = some (.slice e)
  hi : P.info? e = some i
  hz : i.zero = some z
  hzs : z.cells.size = i.size
  hsz : 0 < i.size
  hroom : (es.length + ys.length) * i.bytes ≤ room
  hlen : es.length + ys.length ≤ room
  hys : 0 < ys.length
  hl2 : ∀ j, j < ys.length → (ys.getD j .undef).cells.length = i.size
  h2 : news.length = ys.length * i.size
  hn : ∀ (j : Nat) (u : Value), news[j]? = some u → u.oneCell' = true
  hput : ∀ (ty : TypeId) (b : Nat) (cur : Array Value) (e' : TypeId) (cap : Nat), w.heap[b]? = some (.cells cur e' (0, 0)) → es.length + ys.length ≤ cap → es.length * i.size + news.length ≤ cur.size →
    (Builtin.append_ #[t, u] ty #[.slice (some ⟨b, 0, none⟩) es.length cap, yv]).run P w = .ok (.slice (some ⟨b, 0, none⟩) (es.length + ys.length) cap)
      (w.setRow b (cur.toList.take (es.length * i.size) ++ news ++ cur.toList.drop (es.length * i.size + news.length)).toArray)
  hgrow : ∀ (ty : TypeId) (ad : Addr) (cap : Nat) (vals : List Value), vals.length = es.length * i.size → (∀ (j : Nat) (v : Value), vals[j]? = some v → w.cell? (ad.add j) = some v) → cap < es.length + ys.length →
    (Builtin.append_ #[t, u] ty #[.slice (some ad) es.length cap, yv]).run P w = .ok (.slice (some ⟨w.heap.size, 0, none⟩) (es.length + ys.length) (grownCap w (es.length + ys.length) cap e))
      (w.drew.alloc (.cells (vals.toArray ++ news.toArray ++ Builtin.zeroCells z.cells (grownCap w (es.length + ys.length) cap e - (es.length + ys.length))) e))
  hnil : ∀ (ty : TypeId), es = [] → (Builtin.append_ #[t, u] ty #[.slice none 0 0, yv]).run P w = .ok (.slice (some ⟨w.heap.size, 0, none⟩) (es.length + ys.length) (grownCap w (es.length + ys.length) 0 e))
      (w.drew.alloc (.cells (([] : List Value).toArray ++ news.toArray ++ Builtin.zeroCells z.cells (grownCap w (es.length + ys.length) 0 e - (es.length + ys.length))) e))
  hv2 : ∀ k j, k < ys.length → j < i.size → g.VR w ((ys.getD k .undef).cell j) (news.getD (k * i.size + j) Go.undef)
theorem grow_block {t u e : TypeId} {i : TypeInfo} {z : Value} {es ys : List PV} {yv : Value} {news vals : List Value} (A : AppIn P g w t u e i z es ys yv news) {old : Nat} (hold : old < es.length + ys.length)
    (h1 : vals.length = es.length * i.size) (hl1 : ∀ j, j < es.length → (es.getD j .undef).cells.length = i.size) (ho : ∀ u ∈ vals, u.oneCell' = true)
    (hv1 : ∀ k j, k < es.length → j < i.size → g.VR w ((es.getD k .undef).cell j) (vals.getD (k * i.size + j) Go.undef)) :
    let cap := grownCap w (es.length + ys.length) old e
    let arr := vals.toArray ++ news.toArray ++ Builtin.zeroCells z.cells (cap - (es.length + ys.length))
    let w1 := w.drew.alloc (.cells arr e)
    Grow w w1 ∧ w1.heap[w.heap.size]? = some (.cells arr e (0, 0)) ∧ es.length + ys.length ≤ cap ∧ w.heap.size < w1.heap.size ∧
    (∀ g' : Gh, Tr (fun _ => False) g g' w w1 → (∃ o, g'.O w.heap.size = some o) → g'.M w.heap.size = (es.length + ys.length) * i.size →
      g'.VR w1 (.sl none i.size (es ++ ys)) (.slice (some ⟨w.heap.size, 0, none⟩) (es.length + ys.length) cap)) ∧
    w1.ownsRow 0 e i.size (.slice (some ⟨w.heap.size, 0, none⟩) (es.length + ys.length) cap) (es.length + ys.length) (vals ++ news) := by
  intro cap arr w1
  have hG : Grow w w1 := ⟨rfl, rfl, rfl, by simp [w1], fun b hb => heap_alloc_old w.drew _ b hb⟩
  have hnew : w1.heap[w.heap.size]? = some (.cells arr e (0, 0)) := heap_alloc_new w.drew _
  have hcap : es.length + ys.length ≤ cap := grownCap_ge w _ old e
  have hlen : (vals ++ news).length = (es.length + ys.length) * i.size := by rw [List.length_append, h1, A.h2, Nat.add_mul]
  have hcell : ∀ (j : Nat) (u : Value), (vals ++ news)[j]? = some u → w1.cell? ⟨w.heap.size, j, none⟩ = some u := by
    intro j u hj
    rw [cell_of_row _ _ _ _ _ _ hnew]
    show (vals.toArray ++ news.toArray ++ _)[j]? = some u
    have hlt := (List.getElem?_eq_some_iff.1 hj).1
    rw [Array.getElem?_append_left (by simp at hlt ⊢; omega)]
    have e1 : vals.toArray ++ news.toArray = (vals ++ news).toArray := by simp
    rw [e1]
    simpa using hj
  have hone : ∀ (j : Nat) (u : Value), (vals ++ news)[j]? = some u → u.oneCell' = true := by
    intro j u hj
    have := List.mem_of_getElem? hj
    rcases List.mem_append.1 this with h | h
    · exact ho u h
    · obtain ⟨j', hj'⟩ := List.getElem?_of_mem h
      exact A.hn j' u hj'
  refine ⟨hG, hnew, hcap, by simp [w1], fun g' t hO hM => ?_, ⟨hlen, .inr ⟨w.heap.size, cap, arr, rfl, Nat.zero_le _, hnew, hcap, ?_, ?_, ?_⟩⟩⟩
  · refine sl_mk A.hsz hl1 A.hl2 h1 A.h2 hcap (fun j u hj => ⟨hcell j u hj, .inr ?_, hone j u hj⟩) (fun k j hk hj => t.vr (hv1 k j hk hj)) (fun k j hk hj => t.vr (A.hv2 k j hk hj))
    rw [hM, ← hlen]
    exact (List.getElem?_eq_some_iff.1 hj).1
  · have := A.hlen
    exact grownCap_le_maxLen w _ old e (by unfold maxLen; unfold room at this; omega)
  · show (vals.toArray ++ news.toArray ++ _).size = _
    simp only [Array.size_append, List.size_toArray, size_zeroCells, A.hzs, h1, A.h2, ← Nat.add_mul]
    congr 1
    omega
  · show List.take _ (vals.toArray ++ news.toArray ++ _).toList = _
    simp only [Array.toList_append]
    rw [← hlen]
    exact List.take_left
theorem app_new {kx : Option Tk} {n0 : Nat} {t u e ty : TypeId} {i : TypeInfo} {z : Value} {es ys : List PV} {yv : Value} {news vals : List Value} (hF : FrR g F S.htoks w a) (hS : StR g S w) (A : AppIn P g w t u e i z es ys yv news) {xv : Value} {old : Nat} (hold : old < es.length + ys.length)
    (h1 : vals.length = es.length * i.size) (hl1 : ∀ j, j < es.length → (es.getD j .undef).cells.length = i.size) (ho : ∀ u ∈ vals, u.oneCell' = true)
    (hv1 : ∀ k j, k < es.length → j < i.size → g.VR w ((es.getD k .undef).cell j) (vals.getD (k * i.size + j) Go.undef))
    (hrun : (Builtin.append_ #[t, u] ty #[xv, yv]).run P w = .ok (.slice (some ⟨w.heap.size, 0, none⟩) (es.length + ys.length) (grownCap w (es.length + ys.length) old e))
      (w.drew.alloc (.cells (vals.toArray ++ news.toArray ++ Builtin.zeroCells z.cells (grownCap w (es.length + ys.length) old e - (es.length + ys.length))) e))) :
    AppR P g S w a t u ty kx n0 xv yv (.v (.sl none i.size (es ++ ys)) (some (.loc F.toks.length))) { F with toks := F.toks ++ [some (es.length + ys.length, i.size)] } S := by
  obtain ⟨hG, hnew, hcap, hlt, hvr, hown⟩ := grow_block A hold h1 hl1 ho hv1
  let g' : Gh := { g with ψ := g.ψ ++ [w.heap.size], O := upd g.O w.heap.size (some (.tok F.toks.length)), M := upd g.M w.heap.size ((es.length + ys.length) * i.size) }
  have hO : ∀ b, b < w.heap.size → g'.O b = g.O b ∧ g'.M b = g.M b := fun b hb => ⟨upd_ne _ _ (by omega), upd_ne _ _ (by omega)⟩
  have tr := fun ch => hG.tr ch (g := g) (g' := g') hO (fun _ _ h => h)
  have k1 := tok_new_grow (g' := g') (own := .tok) (n := es.length + ys.length) (sz := i.size) (bs' := g'.ψ) (k := (es.length + ys.length) * i.size) hF.toks hG rfl hlt rfl rfl hF.psi rfl rfl
  have k2 := tok_other_grow (g' := g') (own := .htok) hS.toks hG rfl rfl rfl
  refine ⟨_, _, g', hrun, after_toks (ch := fun _ => False) hF hS (tr _) (fun o h => h.elim) rfl k1 k2 (by show (g.ψ ++ [w.heap.size]).length = _; simp [hF.psi]) hS.tau, _, _, rfl, ?_, ?_⟩
  · exact hvr g' (tr _) ⟨.tok F.toks.length, by show upd _ _ _ _ = _; simp⟩ (by show upd _ _ _ _ = _; simp)
  · refine ⟨?_, fun sz0 es0 e0 _ => ?_⟩
    rotate_left
    · cases e0
      exact ⟨w.heap.size, _, _, _, by rw [List.length_append], hnew, fun id hid => (by have hid : upd g.O w.heap.size (some (.tok F.toks.length)) w.heap.size = _ := hid; rw [upd_same] at hid; cases hid), .inl (Nat.le_refl _)⟩
    refine ⟨by simp, fun n sz hn => ?_⟩
    simp at hn
    obtain ⟨rfl, rfl⟩ := hn
    refine ⟨(es ++ ys).length, rfl, by simp, fun _ => ⟨e, _, w.heap.size, hown, ?_, rfl⟩⟩
    show (g.ψ ++ [w.heap.size])[F.toks.length]? = _
    rw [← hF.psi, List.getElem?_append_right (Nat.le_refl _)]; simp
theorem own_at {toks : Toks} {bs : List Nat} {tk : Nat} {sz n : Nat} {x : Option AAd} {es : List PV} {v : Value} (ho : OwnR w toks bs tk (.sl x sz es) v) (ht : toks[tk]? = some (some (n, sz))) (hn : n = es.length) :
    ∃ b cap cur e', v = .slice (some ⟨b, 0, none⟩) n cap ∧ bs[tk]? = some b ∧ w.heap[b]? = some (.cells cur e' (0, 0)) ∧ n ≤ cap ∧ cap ≤ maxLen ∧ cur.size = cap * sz := by
  obtain ⟨m, hm, _, h⟩ := ho.2 n sz ht
  simp [slen] at hm
  obtain ⟨e', vals, b, hown, hb, hv⟩ := h (by omega)
  rcases hown.2 with ⟨rfl, _⟩ | ⟨g1, cap, cur, rfl, _, hg, h1, h2, h3, _⟩
  · cases hv
  · cases hv
    exact ⟨_, cap, cur, e', rfl, hb, hg, h1, h2, h3⟩
theorem app_own {n0 : Nat} {t u e ty : TypeId} {i : TypeInfo} {z : Value} {es ys : List PV} {yv : Value} {tk n : Nat} {news : List Value} {x : Option AAd} {xv : Value} (loc : Bool) (hF : FrR g F S.htoks w a) (hS : StR g S w) (A : AppIn P g w t u e i z es ys yv news)
    (hx : g.VR w (.sl x i.size es) xv) (hk : if loc then OwnR w F.toks g.ψ tk (.sl x i.size es) xv else OwnR w S.htoks g.τ tk (.sl x i.size es) xv)
    (ht : if loc then F.toks[tk]? = some (some (n, i.size)) else S.htoks[tk]? = some (some (n, i.size))) (hn : n = es.length) :
    AppR P g S w a t u ty (some (if loc then .loc tk else .hp tk)) n0 xv yv (.v (.sl none i.size (es ++ ys)) (some (if loc then .loc tk else .hp tk)))
      (if loc then { F with toks := F.toks.set tk (some (es.length + ys.length, i.size)) } else F) (if loc then S else { S with htoks := S.htoks.set tk (some (es.length + ys.length, i.size)) }) := by
  subst hn
  obtain ⟨b, cap, cur, e', rfl, hbk, hcur, hle, hmax, hsize⟩ : ∃ b cap cur e', xv = .slice (some ⟨b, 0, none⟩) es.length cap ∧ (if loc then g.ψ[tk]? = some b else g.τ[tk]? = some b) ∧ w.heap[b]? = some (.cells cur e' (0, 0)) ∧ es.length ≤ cap ∧ cap ≤ maxLen ∧ cur.size = cap * i.size := by
    cases loc
    · simp only [Bool.false_eq_true, if_false] at hk ht ⊢; exact own_at hk ht rfl
    · simp only [if_true] at hk ht ⊢; exact own_at hk ht rfl
  obtain ⟨p', cap', vals, hxe, _, _, hl1, hvl, hvals, hv1⟩ := sl_list hx
  cases hxe
  simp only [addr_add] at hvals
  have hold1 : ∀ u ∈ vals, u.oneCell' = true := fun u hu => by obtain ⟨j, hj⟩ := List.getElem?_of_mem hu; exact (hvals j u hj).2.2
  by_cases hroom : es.length + ys.length ≤ cap
  · have hfit : es.length * i.size + news.length ≤ cur.size := by rw [A.h2, hsize, ← Nat.add_mul]; exact Nat.mul_le_mul_right _ hroom
    have hrun := A.hput ty b cur e' cap hcur hroom hfit
    generalize harr : (cur.toList.take (es.length * i.size) ++ news ++ cur.toList.drop (es.length * i.size + news.length)).toArray = arr at hrun
    have hput := Put1.setRow w b arr
    have hnewb := setRow_heap w b cur arr e' (0, 0) hcur
    have hasz : arr.size = cap * i.size := by rw [← harr]; simp; omega
    have hOM : g.O b = some (if loc then .tok tk else .htok tk) ∧ g.M b = es.length * i.size := by
      cases loc
      · simp only [Bool.false_eq_true, if_false] at hbk ht ⊢
        obtain ⟨b1, q1, q2, q3, _⟩ := hS.toks tk _ _ ht
        rw [hbk] at q1; cases q1; exact ⟨q2, q3⟩
      · simp only [if_true] at hbk ht ⊢
        obtain ⟨b1, q1, q2, q3, _⟩ := hF.toks tk _ _ ht
        rw [hbk] at q1; cases q1; exact ⟨q2, q3⟩
    obtain ⟨hO, hM⟩ := hOM
    let g' : Gh := { g with M := upd g.M b ((es.length + ys.length) * i.size) }
    have harr1 : ∀ j, j < es.length * i.size → arr[j]? = cur[j]? := by
      intro j hj
      rw [← harr]
      have : j < cur.size := by omega
      rw [List.getElem?_toArray, List.append_assoc, List.getElem?_append_left (by simp; omega), List.getElem?_take_of_lt hj, Array.getElem?_toList]
    have tr := room_tr (k := (es.length + ys.length) * i.size) hO hM (Nat.mul_le_mul_right _ (by omega)) hcur harr1
    have hcellj : ∀ (j : Nat) (u : Value), (vals ++ news)[j]? = some u → (w.setRow b arr).cell? ⟨b, j, none⟩ = some u ∧ u.oneCell' = true := by
      intro j u hj
      rw [cell_of_row _ b j arr e' (0, 0) hnewb]
      by_cases hlt : j < vals.length
      · rw [List.getElem?_append_left hlt] at hj
        obtain ⟨q1, _, q3⟩ := hvals j u hj
        rw [harr1 j (by omega)]
        rw [Nat.zero_add, cell_of_row _ b j cur e' (0, 0) hcur] at q1
        exact ⟨q1, q3⟩
      · rw [List.getElem?_append_right (Nat.not_lt.1 hlt)] at hj
        have hlt2 := (List.getElem?_eq_some_iff.1 hj).1
        refine ⟨?_, A.hn _ u hj⟩
        rw [← harr, List.getElem?_toArray, List.append_assoc, List.getElem?_append_right (by simp; omega)]
        have e1 : j - (cur.toList.take (es.length * i.size)).length = j - vals.length := by simp; omega
        rw [e1, List.getElem?_append_left hlt2]
        exact hj
    have hlen : (vals ++ news).length = (es.length + ys.length) * i.size := by rw [List.length_append, hvl, A.h2, Nat.add_mul]
    have hvr : g'.VR (w.setRow b arr) (.sl none i.size (es ++ ys)) (.slice (some ⟨b, 0, none⟩) (es.length + ys.length) cap) := by
      refine sl_mk A.hsz hl1 A.hl2 hvl A.h2 hroom (fun j u hj => ⟨(hcellj j u hj).1, .inr ?_, (hcellj j u hj).2⟩) (fun k j hk hj => tr.vr (hv1 k j hk hj)) (fun k j hk hj => tr.vr (A.hv2 k j hk hj))
      show j < upd g.M b _ b
      rw [upd_same, ← hlen]
      exact (List.getElem?_eq_some_iff.1 hj).1
    have hown : (w.setRow b arr).ownsRow 0 e' i.size (.slice (some ⟨b, 0, none⟩) (es.length + ys.length) cap) (es.length + ys.length) (vals ++ news) := by
      refine ⟨hlen, .inr ⟨b, cap, arr, rfl, Nat.zero_le _, hnewb, hroom, hmax, hasz, ?_⟩⟩
      apply List.ext_getElem?
      intro j
      rw [List.getElem?_take]
      split
      · rename_i hj
        have hj' : j < (vals ++ news).length := by omega
        have := (hcellj j _ (List.getElem?_eq_getElem hj')).1
        rw [cell_of_row _ b j arr e' (0, 0) hnewb] at this
        rw [List.getElem?_eq_getElem hj', Array.getElem?_toList]
        exact this
      · rename_i hj
        rw [List.getElem?_eq_none (by omega)]
    have adf : ∀ kx : Option Tk, kx ≠ some .full → AdF g' w (w.setRow b arr) (.slice (some ⟨b, 0, none⟩) es.length cap) kx n0 (.sl none i.size (es ++ ys)) (.slice (some ⟨b, 0, none⟩) (es.length + ys.length) cap) := by
      intro kx hkx sz0 es0 e0 _
      cases e0
      refine ⟨b, cap, _, _, by rw [List.length_append], hnewb, fun id hid => ?_, .inr ⟨rfl, hkx⟩⟩
      have hid : g.O b = some (.obj id) := hid
      rw [hO] at hid
      cases loc <;> cases hid
    cases loc with
    | true =>
      simp only [if_true] at hk ht hbk hO ⊢
      have k1 := tok_set_room (own := .tok) (fun s t h => by cases h; rfl) hF.toks hput ht hbk A.hys rfl
      have k2 := tok_other_room (own := .htok) (k := (es.length + ys.length) * i.size) hS.toks hput (fun s h => by rw [hO] at h; cases h)
      refine ⟨_, _, g', hrun, after_toks hF hS tr (fun o h => .inl ⟨tk, h⟩) rfl k1 k2 (by simp [g', hF.psi]) hS.tau, _, _, rfl, hvr, ?_, adf _ (by simp)⟩
      have htl : tk < F.toks.length := (List.getElem?_eq_some_iff.1 ht).1
      refine ⟨by simpa using htl, fun m sz hm => ?_⟩
      simp only at hm
      rw [set_get _ _ _ _ htl, if_pos rfl] at hm
      cases hm
      exact ⟨(es ++ ys).length, rfl, by simp, fun _ => ⟨e', _, b, hown, hbk, rfl⟩⟩
    | false =>
      simp only [Bool.false_eq_true, if_false] at hk ht hbk hO ⊢
      have k1 := tok_set_room (own := .htok) (fun s t h => by cases h; rfl) hS.toks hput ht hbk A.hys rfl
      have k2 := tok_other_room (own := .tok) (k := (es.length + ys.length) * i.size) hF.toks hput (fun s h => by rw [hO] at h; cases h)
      refine ⟨_, _, g', hrun, after_toks hF hS tr (fun o h => .inr ⟨tk, h⟩) rfl k2 k1 hF.psi (by simp [g', hS.tau]), _, _, rfl, hvr, ?_, adf _ (by simp)⟩
      have htl : tk < S.htoks.length := (List.getElem?_eq_some_iff.1 ht).1
      refine ⟨by simpa using htl, fun m sz hm => ?_⟩
      simp only at hm
      rw [set_get _ _ _ _ htl, if_pos rfl] at hm
      cases hm
      exact ⟨(es ++ ys).length, rfl, by simp, fun _ => ⟨e', _, b, hown, hbk, rfl⟩⟩
  · have hrun := A.hgrow ty ⟨b, 0, none⟩ cap vals hvl (fun j u hj => by rw [addr_add]; exact (hvals j u hj).1) (by omega)
    obtain ⟨hG, hnew, hcap, hlt, hvr, hown⟩ := grow_block A (old := cap) (by omega) hvl hl1 hold1 hv1
    cases loc with
    | true =>
      simp only [if_true] at hk ht hbk ⊢
      let g' : Gh := { g with ψ := g.ψ.set tk w.heap.size, O := upd g.O w.heap.size (some (.tok tk)), M := upd g.M w.heap.size ((es.length + ys.length) * i.size) }
      have hO : ∀ b, b < w.heap.size → g'.O b = g.O b ∧ g'.M b = g.M b := fun b hb => ⟨upd_ne _ _ (by omega), upd_ne _ _ (by omega)⟩
      have tr := fun ch => hG.tr ch (g := g) (g' := g') hO (fun _ _ h => h)
      have k1 := tok_set_grow (g' := g') (own := .tok) (bs' := g'.ψ) (k := (es.length + ys.length) * i.size) hF.toks hG rfl hlt ht A.hys rfl rfl rfl hF.psi rfl rfl
      have k2 := tok_other_grow (g' := g') (own := .htok) hS.toks hG rfl rfl rfl
      refine ⟨_, _, g', hrun, after_toks (ch := fun _ => False) hF hS (tr _) (fun o h => h.elim) rfl k1 k2 (by show (g.ψ.set tk _).length = _; simp [hF.psi]) hS.tau, _, _, rfl, ?_, ?_⟩
      · exact hvr g' (tr _) ⟨.tok tk, by show upd _ _ _ _ = _; simp⟩ (by show upd _ _ _ _ = _; simp)
      · refine ⟨?_, fun sz0 es0 e0 _ => ?_⟩
        rotate_left
        · cases e0
          exact ⟨w.heap.size, _, _, _, by rw [List.length_append], hnew, fun id hid => (by have hid : upd g.O w.heap.size (some (.tok tk)) w.heap.size = _ := hid; rw [upd_same] at hid; cases hid), .inl (Nat.le_refl _)⟩
        have htl : tk < F.toks.length := (List.getElem?_eq_some_iff.1 ht).1
        refine ⟨by simpa using htl, fun m sz hm => ?_⟩
        simp only at hm
        rw [set_get _ _ _ _ htl, if_pos rfl] at hm
        cases hm
        refine ⟨(es ++ ys).length, rfl, by simp, fun _ => ⟨e, _, w.heap.size, hown, ?_, rfl⟩⟩
        show (g.ψ.set tk w.heap.size)[tk]? = _
        rw [set_get _ _ _ _ (by rw [hF.psi]; exact htl), if_pos rfl]
    | false =>
      simp only [Bool.false_eq_true, if_false] at hk ht hbk ⊢
      let g' : Gh := { g with τ := g.τ.set tk w.heap.size, O := upd g.O w.heap.size (some (.htok tk)), M := upd g.M w.heap.size ((es.length + ys.length) * i.size) }
      have hO : ∀ b, b < w.heap.size → g'.O b = g.O b ∧ g'.M b = g.M b := fun b hb => ⟨upd_ne _ _ (by omega), upd_ne _ _ (by omega)⟩
      have tr := fun ch => hG.tr ch (g := g) (g' := g') hO (fun _ _ h => h)
      have k1 := tok_set_grow (g' := g') (own := .htok) (bs' := g'.τ) (k := (es.length + ys.length) * i.size) hS.toks hG rfl hlt ht A.hys rfl rfl rfl hS.tau rfl rfl
      have k2 := tok_other_grow (g' := g') (own := .tok) hF.toks hG rfl rfl rfl
      refine ⟨_, _, g', hrun, after_toks (ch := fun _ => False) hF hS (tr _) (fun o h => h.elim) rfl k2 k1 hF.psi (by show (g.τ.set tk _).length = _; simp [hS.tau]), _, _, rfl, ?_, ?_⟩
      · exact hvr g' (tr _) ⟨.htok tk, by show upd _ _ _ _ = _; simp⟩ (by show upd _ _ _ _ = _; simp)
      · refine ⟨?_, fun sz0 es0 e0 _ => ?_⟩
        rotate_left
        · cases e0
          exact ⟨w.heap.size, _, _, _, by rw [List.length_append], hnew, fun id hid => (by have hid : upd g.O w.heap.size (some (.htok tk)) w.heap.size = _ := hid; rw [upd_same] at hid; cases hid), .inl (Nat.le_refl _)⟩
        have htl : tk < S.htoks.length := (List.getElem?_eq_some_iff.1 ht).1
        refine ⟨by simpa using htl, fun m sz hm => ?_⟩
        simp only at hm
        rw [set_get _ _ _ _ htl, if_pos rfl] at hm
        cases hm
        refine ⟨(es ++ ys).length, rfl, by simp, fun _ => ⟨e, _, w.heap.size, hown, ?_, rfl⟩⟩
        show (g.τ.set tk w.heap.size)[tk]? = _
        rw [set_get _ _ _ _ (by rw [hS.tau]; exact htl), if_pos rfl]
end
end Go.Abs
namespace Go.Abs
open Go.Lib
section
variable {P : Program} {g g' : Gh} {F : Fr} {S : St} {w w' : World} {a : Act}
theorem append_nothing_str {t u e ty : TypeId} {i : TypeInfo} (hu : P.underlying t = some (.slice e)) (hs : P.underlying u = some .string) (hi : P.info? e = some i) {base : Option Addr} {n c : Nat} (hnc : n ≤ c) {s : ByteArray} (h0 : s.size = 0) :
    (Builtin.append_ #[t, u] ty #[.slice base n c, .string s]).run P w = .ok (.slice base n c) w := by
  have hf : (Builtin.firstCells i.size 0 (.string s)).run P w = .ok #[] w := by
    have := run_firstCells_string (P := P) w i.size s
    rw [h0] at this
    rw [this]
    have : strCells s = [] := List.eq_nil_of_length_eq_zero (by rw [strCells_length]; exact h0)
    rw [this]
  cases base with
  | none => simp [Builtin.append_, run_underlying hu, run_underlying hs, sizeOf, typeInfo, hi, Builtin.lenOf, h0, hnc, hf]
  | some ad => simp [Builtin.append_, run_underlying hu, run_underlying hs, sizeOf, typeInfo, hi, Builtin.lenOf, h0, hnc, hf, storeCells]
theorem append_room_str {t u ty e e' : TypeId} {i : TypeInfo} (ht : P.underlying t = some (.slice e)) (hs : P.underlying u = some .string) (hi : P.info? e = some i) (h1 : i.size = 1)
    {b sLen sCap : Nat} {cur : Array Value} (hg : w.heap[b]? = some (.cells cur e' (0, 0))) {s : ByteArray} (hroom : sLen + s.size ≤ sCap) (hfit : sLen + s.size ≤ cur.size) :
    (Builtin.append_ #[t, u] ty #[.slice (some ⟨b, 0, none⟩) sLen sCap, .string s]).run P w =
      .ok (.slice (some ⟨b, 0, none⟩) (sLen + s.size) sCap) (w.setRow b (cur.toList.take sLen ++ strCells s ++ cur.toList.drop (sLen + s.size)).toArray) := by
  have hf := run_firstCells_string (P := P) w 1 s
  have hst := run_storeCells_at P b sLen e' (strCells s) 0 cur w hg (by simpa [strCells_length] using hfit) (strCells_oneCell s)
  simp only [Nat.add_zero, strCells_length] at hst
  simp [Builtin.append_, run_underlying ht, run_underlying hs, sizeOf, typeInfo, hi, h1, Builtin.lenOf, hroom, hf, Addr.add_lit, hst]
def ArgR (P : Program) (g : Gh) (w : World) (t u : TypeId) (y : PV) (yv : Value) : Prop :=
  (u = t ∧ g.VR w y yv) ∨ ∃ s, isBytes P t = true ∧ P.underlying u = some .string ∧ y = .sl none 1 (strPV s) ∧ yv = .string s
theorem isBytes_some {t : TypeId} (h : isBytes P t = true) : ∃ e i, P.underlying t = some (.slice e) ∧ P.info? e = some i ∧ i.size = 1 := by
  unfold isBytes at h
  split at h
  · rename_i e hu
    split at h
    · have h : szOf P e = some 1 := by simpa using h
      obtain ⟨_, i, _, hi, hs⟩ := szOf_some h
      exact ⟨e, i, hu, hi, hs⟩
    · cases h
  · cases h
def xlen : PV → Nat
  | .sl _ _ es => es.length
  | _ => 0
theorem appendA_sound {t u ty : TypeId} {x : SV} {y : PV} {xv yv : Value} {sv : SV} {F' : Fr} {S' : St} (hF : FrR g F S.htoks w a) (hS : StR g S w) (hx : OpdR g F S.htoks w a x xv) (hy : ArgR P g w t u y yv)
    (h : appendA P t F S x y = some (sv, F', S')) : AppR P g S w a t u ty x.tk (xlen x.pv) xv yv sv F' S' := by
  unfold appendA at h
  obtain ⟨q, h', hqe⟩ := Option.map_eq_some_iff.1 h
  clear h
  have h := h'
  clear h'
  cases hqe
  unfold appendT at h
  obtain ⟨⟨sz, by', ag⟩, he, h⟩ := Option.bind_eq_some_iff.1 h
  obtain ⟨e, i, hu, hi, hsz, hby, _⟩ := elemOf_some he
  subst hsz; subst hby
  dsimp only at h
  obtain ⟨ys, hys, h⟩ := Option.bind_eq_some_iff.1 h
  cases x with
  | box cs => cases hx
  | lp s o => cases h
  | v x k =>
    simp only at h
    obtain ⟨hxv, hxk⟩ := hx
    by_cases hemp : ys.isEmpty = true
    · rw [if_pos hemp] at h
      have hys0 : ys = [] := List.isEmpty_iff.1 hemp
      subst hys0
      have hrun0 : ∀ base n c, n ≤ c → (Builtin.append_ #[t, u] ty #[.slice base n c, yv]).run P w = .ok (.slice base n c) w := by
        rcases hy with ⟨rfl, hy⟩ | ⟨s, hb, hs, rfl, rfl⟩
        · have hyv : ∃ yb yc, yv = .slice yb 0 yc := by
            split at hys
            · obtain ⟨c, hc, e1⟩ := Option.map_eq_some_iff.1 hys
              cases hy with
              | sl _ _ es b o cap gv _ _ _ _ _ _ => rw [e1]; exact ⟨_, _, rfl⟩
              | sl0 _ p _ => exact ⟨_, _, rfl⟩
            · cases hy; exact ⟨_, _, rfl⟩
            · cases hys
          obtain ⟨yb, yc, rfl⟩ := hyv
          intro base n c hnc
          exact append_nothing hu hi hnc
        · intro base n c hnc
          refine append_nothing_str hu hs hi hnc ?_
          simp only at hys
          obtain ⟨c', hc', e1⟩ := Option.map_eq_some_iff.1 hys
          have := congrArg List.length e1
          have h2 : (strPV s).length = s.size := by unfold strPV; rw [List.length_map, Array.length_toList]; rfl
          rw [h2] at this
          exact this
      have fin : ∀ base n c, xv = .slice base n c → n ≤ c → (x, k, F.toks, S.htoks) = q → AppR P g S w a t u ty k (xlen x) xv yv (.v q.1 q.2.1) { F with toks := q.2.2.1 } { S with htoks := q.2.2.2 } := by
        intro base n c hxe hnc hq
        subst hq
        subst hxe
        exact ⟨_, _, g, hrun0 _ _ _ hnc, ⟨hF, hS, Tr.refl _ _ _, TokTr.refl _ _ _⟩, x, k, rfl, hxv, hxk, fun sz0 es0 e0 hne => absurd (by rw [e0]; rfl) hne⟩
      split at h
      · obtain ⟨c, hc, h⟩ := Option.map_eq_some_iff.1 h
        cases hxv with
        | sl _ _ es b o cap gv _ _ hcap _ _ _ => exact fin _ _ _ rfl hcap h
        | sl0 _ p _ => exact fin _ _ _ rfl (Nat.le_refl _) h
      · cases hxv
        exact fin _ _ _ rfl (Nat.le_refl _) (Option.some.inj h)
      · cases h
    · rw [if_neg hemp] at h
      obtain ⟨es, hes, h1⟩ := Option.bind_eq_some_iff.1 h
      obtain ⟨c, hc, h2⟩ := Option.bind_eq_some_iff.1 h1
      clear h h1
      have h := h2
      clear h2
      have hc := chk_some hc
      simp only [Bool.and_eq_true, decide_eq_true_eq] at hc
      obtain ⟨⟨⟨hz, hpos⟩, hroom⟩, hlen⟩ := hc
      obtain ⟨z, hzi, hzs⟩ := zeroOk_some hz hu hi
      have hys0 : 0 < ys.length := by
        cases ys with
        | nil => simp at hemp
        | cons _ _ => simp
      have hA : ∃ news, AppIn P g w t u e i z es ys yv news := by
        have hl63 : ((es.length + ys.length : Nat) : Int) ≤ 9223372036854775807 := by unfold room at hlen; omega
        rcases hy with ⟨hut, hy⟩ | ⟨s, hb, hs, hye, hyv⟩
        · split at hys
          · obtain ⟨c1, hc1, e1⟩ := Option.map_eq_some_iff.1 hys
            have hc2 := chk_some hc1
            simp only [beq_iff_eq] at hc2
            obtain ⟨p, cap, vals, hyv, _, _, h4, h5, h6, h7⟩ := sl_list hy
            rw [e1] at hyv h4 h5 h7
            rw [hc2] at h4 h5 h7
            have hnews : ∀ j u, vals[j]? = some u → w.cell? (p.add j) = some u := fun j u hj => (h6 j u hj).1
            have hone : ∀ u ∈ vals, u.oneCell' = true := fun u hu => by obtain ⟨j, hj⟩ := List.getElem?_of_mem hu; exact (h6 j u hj).2.2
            rw [hyv, hut]
            refine ⟨vals, hu, hi, hzi, hzs, hpos, hroom, hlen, hys0, h4, h5, fun j u hj => (h6 j u hj).2.2, fun ty b' cur e' cap' hcur hr hf => ?_, fun ty ad cap' vs hvl hvs hlt => ?_, fun ty he => ?_, h7⟩
            · exact append_room hu hi hcur h5 hnews hone hr hf
            · exact run_append_grow (P := P) w t ty e i z hu hi hzi ad es.length cap' vs hvl hvs p _ cap vals h5 hnews hlt hl63 (growslice_fits (by omega) hroom)
            · have hrun := run_append_nil (P := P) w t ty e i z hu hi hzi p _ cap vals h5 hnews hys0 (by omega) (by unfold room at hroom; have : ys.length * i.bytes ≤ (es.length + ys.length) * i.bytes := Nat.mul_le_mul_right _ (by omega); omega)
              subst he
              simpa using hrun
          · cases hys; simp at hys0
          · cases hys
        · have hsl : (strPV s).length = s.size := by unfold strPV; rw [List.length_map, Array.length_toList]; rfl
          have hys2 := hys
          rw [hye] at hys2
          simp only at hys2
          obtain ⟨c1, hc1, e1⟩ := Option.map_eq_some_iff.1 hys2
          have hc2 := chk_some hc1
          simp only [beq_iff_eq] at hc2
          have hyl : ys.length = s.size := by rw [← e1, hsl]
          have hlen' : (strCells s).length = ys.length * i.size := by rw [strCells_length, hyl, ← hc2, Nat.mul_one]
          have hgr : ∀ cap', cap' < es.length + s.size → Builtin.nextslicecap (es.length + s.size) cap' * i.bytes ≤ 281474976710656 := fun cap' hlt => growslice_fits (by omega) (by rw [← hyl]; exact hroom)
          rw [hyv]
          refine ⟨strCells s, hu, hi, hzi, hzs, hpos, hroom, hlen, hys0, fun j hj => ?_, hlen', fun j u hj => strCells_oneCell s u (List.mem_of_getElem? hj), fun ty b' cur e' cap' hcur hr hf => ?_, fun ty ad cap' vs hvl hvs hlt => ?_, fun ty he => ?_, fun k j hk hj => ?_⟩
          · rw [← hc2, ← e1]
            have hj' : j < s.data.toList.length := by rw [← e1] at hj; simpa [strPV] using hj
            simp only [strPV, List.getD_eq_getElem?_getD, List.getElem?_map]
            rw [List.getElem?_eq_getElem hj']
            rfl
          · have := append_room_str (P := P) (ty := ty) hu hs hi hc2.symm (sLen := es.length) (sCap := cap') hcur (s := s) (by rw [← hyl]; exact hr) (by rw [strCells_length] at hf; rw [← hc2] at hf; simpa using hf)
            rw [hyl, strCells_length, ← hc2, Nat.mul_one]
            exact this
          · have := run_append_grow_string (P := P) w t u ty e i z hu hs hi hzi ad es.length cap' vs hvl hvs s (by rw [← hyl]; exact hlt) (by rw [← hyl]; exact hl63) (hgr cap' (by rw [← hyl]; exact hlt))
            rw [hyl]
            exact this
          · have hs0 : 0 < s.size := by rw [← hyl]; exact hys0
            have hb0 : s.size * i.bytes ≤ (es.length + ys.length) * i.bytes := Nat.mul_le_mul_right _ (by omega)
            have hrun := run_append_nil_string (P := P) w t u ty e i z hu hs hi hzi s hs0 (by omega) (by unfold room at hroom; omega)
            have e2 : (s.data.map fun b => Value.int .u8 b.toNat) = (strCells s).toArray := by
              apply Array.ext'
              simp [strCells]
            rw [e2] at hrun
            subst he
            simp only [hyl, List.length_nil, Nat.zero_add]
            simpa using hrun
          · have hj0 : j = 0 := by omega
            subst hj0
            have hk' : k < s.data.toList.length := by rw [← e1] at hk; simpa [strPV] using hk
            rw [← hc2, ← e1, Nat.mul_one, Nat.add_zero]
            simp only [strPV, strCells, List.getD_eq_getElem?_getD, List.getElem?_map]
            rw [List.getElem?_eq_getElem hk']
            exact .int _ _
      obtain ⟨news, A⟩ := hA
      have fresh : ∀ (vals : List Value) (old : Nat) (r : Value), old < es.length + ys.length → vals.length = es.length * i.size → (∀ j, j < es.length → (es.getD j .undef).cells.length = i.size) → (∀ u ∈ vals, u.oneCell' = true) →
          (∀ k j, k < es.length → j < i.size → g.VR w ((es.getD k .undef).cell j) (vals.getD (k * i.size + j) Go.undef)) →
          (Builtin.append_ #[t, u] ty #[xv, yv]).run P w = .ok (.slice (some ⟨w.heap.size, 0, none⟩) (es.length + ys.length) (grownCap w (es.length + ys.length) old e))
            (w.drew.alloc (.cells (vals.toArray ++ news.toArray ++ Builtin.zeroCells z.cells (grownCap w (es.length + ys.length) old e - (es.length + ys.length))) e)) →
          (PV.sl none i.size (es ++ ys), some (Tk.loc F.toks.length), F.toks ++ [some (es.length + ys.length, i.size)], S.htoks) = q →
          AppR P g S w a t u ty k (xlen x) xv yv (.v q.1 q.2.1) { F with toks := q.2.2.1 } { S with htoks := q.2.2.2 } := by
        intro vals old r hold h1 h2 h3 h4 hrun hq
        subst hq
        exact app_new hF hS A hold h1 h2 h3 h4 hrun
      have nil : x = .snil → es = [] → (PV.sl none i.size (es ++ ys), some (Tk.loc F.toks.length), F.toks ++ [some (es.length + ys.length, i.size)], S.htoks) = q → AppR P g S w a t u ty k (xlen x) xv yv (.v q.1 q.2.1) { F with toks := q.2.2.1 } { S with htoks := q.2.2.2 } := by
        rintro rfl rfl hq
        cases hxv
        exact fresh [] 0 default (by simp; omega) (by simp) (fun j hj => by simp at hj) (fun u hu => by simp at hu) (fun k j hk _ => by simp at hk) (A.hnil ty rfl) hq
      have full : ∀ x0, x = .sl x0 i.size es → k = some .full → (PV.sl none i.size (es ++ ys), some (Tk.loc F.toks.length), F.toks ++ [some (es.length + ys.length, i.size)], S.htoks) = q → AppR P g S w a t u ty k (xlen x) xv yv (.v q.1 q.2.1) { F with toks := q.2.2.1 } { S with htoks := q.2.2.2 } := by
        rintro x0 rfl rfl hq
        obtain ⟨p, cap, vals, h1, _, _, h4, h5, h6, h7⟩ := sl_list hxv
        obtain ⟨ad, n, hfull⟩ := hxk
        rw [h1] at hfull
        cases hfull
        subst h1
        have hrun := A.hgrow ty p es.length vals h5 (fun j u hj => (h6 j u hj).1) (by omega)
        exact fresh vals es.length default (by omega) h5 h4 (fun u hu => by obtain ⟨j, hj⟩ := List.getElem?_of_mem hu; exact (h6 j u hj).2.2) h7 hrun hq
      have esl : ∀ a' sz' es', x = .sl a' sz' es' → x = .sl a' i.size es := by
        rintro a' sz' es' rfl
        simp only at hes
        obtain ⟨c, hc, e1⟩ := Option.map_eq_some_iff.1 hes
        have hc := chk_some hc
        simp only [beq_iff_eq] at hc
        subst hc; subst e1; rfl
      split at h
      · rename_i tk a' sz' es'
        have hxe := esl _ _ _ rfl
        cases hxe
        split at h
        · rename_i n z0 ht
          split at h
          · rename_i hn
            obtain ⟨hn, rfl⟩ := hn
            cases h
            have := app_own (n0 := es.length) (P := P) (ty := ty) (n := n) true hF hS A hxv (by rw [if_pos rfl]; exact hxk) (by rw [if_pos rfl]; exact ht) hn
            simpa [xlen, SV.tk, SV.pv] using this
          · cases h
        · cases h
      · rename_i tk a' sz' es'
        have hxe := esl _ _ _ rfl
        cases hxe
        split at h
        · rename_i n z0 ht
          split at h
          · rename_i hn
            obtain ⟨hn, rfl⟩ := hn
            cases h
            have := app_own (n0 := es.length) (P := P) (ty := ty) (n := n) false hF hS A hxv (by rw [if_neg (by simp)]; exact hxk) (by rw [if_neg (by simp)]; exact ht) hn
            simpa [xlen, SV.tk, SV.pv] using this
          · cases h
        · cases h
      · have hq := Option.some.inj h
        split at hes
        · rename_i a' sz' es'
          have hxe := esl _ _ _ rfl
          exact full _ hxe rfl hq
        · cases hes
          exact nil rfl rfl hq
        · cases hes
      · cases hes
        exact nil rfl rfl (Option.some.inj h)
      · cases h
end
end Go.Abs
namespace Go.Abs
section
variable {P : Program} {g g' : Gh} {F F' : Fr} {S S' : St} {w w' : World} {a a' : Act}
theorem adopt_tr (g : Gh) (b : Nat) (w : World) : Tr (fun _ => False) g { g with σ := g.σ ++ [b] } w w :=
  ⟨rfl, rfl, rfl, Nat.le_refl _, fun id c h => by
    show (g.σ ++ [b])[id]? = some c
    rw [List.getElem?_append_left (List.getElem?_eq_some_iff.1 h).1]; exact h,
   fun _ _ _ h i => ⟨h, i⟩, fun _ _ h => ⟨h, rfl⟩, fun _ _ _ h _ => ⟨h, rfl, rfl⟩, fun _ arr _ h i => ⟨⟨arr, h⟩, i⟩⟩
theorem StR.adopt (hS : StR g S w) {b : Nat} {objs' : List Ob} (hl : objs'.length = S.objs.length) (ho : ∀ (id : Nat) (x : Ob), objs'[id]? = some x → x = Ob.dead ∨ S.objs[id]? = some x)
    (hb : Free g b) (hh : ∃ arr ty, w.heap[b]? = some (.cells arr ty (0, 0))) (hne : ∀ (id : Nat), objs'[id]? = some Ob.blk → g.σ[id]? ≠ some b) :
    StR { g with σ := g.σ ++ [b] } { S with objs := objs' ++ [Ob.blk] } w := by
  have t := adopt_tr g b w
  have hnil : TokTr [] [] g.ψ g.ψ w w := TokTr.refl _ _ _
  have hold : ∀ (id : Nat) (x : Ob), (objs' ++ [Ob.blk])[id]? = some x → (x = Ob.blk ∧ id = S.objs.length) ∨ (id < S.objs.length ∧ (x = Ob.dead ∨ S.objs[id]? = some x) ∧ objs'[id]? = some x) := by
    intro id x h
    by_cases hlt : id < objs'.length
    · rw [List.getElem?_append_left hlt] at h
      exact .inr ⟨by omega, ho id x h, h⟩
    · rw [List.getElem?_append_right (Nat.not_lt.1 hlt)] at h
      have h0 : id - objs'.length = 0 := by
        have := (List.getElem?_eq_some_iff.1 h).1
        simpa using this
      rw [h0] at h
      simp at h
      exact .inl ⟨h.symm, by omega⟩
  have σold : ∀ (id : Nat), id < S.objs.length → (g.σ ++ [b])[id]? = g.σ[id]? := fun id h => List.getElem?_append_left (by rw [hS.sigma]; exact h)
  refine ⟨by simp [hS.sigma, hl], hS.tau, fun id cs hid => ?_, fun id es hid => ?_, hS.toks, fun id hid => ?_, blds_keep hS t.sigma (fun id T e l hid => ?_), fun id id' c h1 h2 h3 h4 => ?_⟩
  rotate_right 2
  · rcases hold id _ hid with ⟨e, _⟩ | ⟨_, e | h, _⟩
    · cases e
    · cases e
    · exact ⟨h, fun c hc ho => ⟨ho, rfl, rfl⟩⟩
  rotate_left
  · rcases hold id _ hid with ⟨e, _⟩ | ⟨_, e | h, _⟩
    · cases e
    · cases e
    · obtain ⟨⟨c, b1, b2, b3, b4⟩, b5⟩ := hS.cells id cs h
      exact ⟨⟨c, t.sigma _ _ b1, b2, b3, b4.keep t hnil (TokTr.refl _ _ _) rfl⟩, b5⟩
  · rcases hold id _ hid with ⟨e, _⟩ | ⟨_, e | h, _⟩
    · cases e
    · cases e
    · obtain ⟨c, ents, clock, b1, b2, b3, b4, b5⟩ := hS.maps id es h
      exact ⟨c, ents, clock, t.sigma _ _ b1, b2, b3, b4, fun i e he => ⟨t.vr (b5 i e he).1, t.vr (b5 i e he).2⟩⟩
  · rcases hold id _ hid with ⟨_, rfl⟩ | ⟨_, e | h, _⟩
    · refine ⟨b, ?_, hb, hh⟩
      show (g.σ ++ [b])[S.objs.length]? = some b
      rw [← hS.sigma, List.getElem?_append_right (Nat.le_refl _)]; simp
    · cases e
    · obtain ⟨c, b1, b2, b3⟩ := hS.blks id h
      exact ⟨c, t.sigma _ _ b1, b2, b3⟩
  · have new : ∀ c, (g.σ ++ [b])[S.objs.length]? = some c → c = b := by
      intro c h
      rw [← hS.sigma, List.getElem?_append_right (Nat.le_refl _)] at h
      simpa using h.symm
    rcases hold id _ h1 with ⟨_, rfl⟩ | ⟨l1, e | h1', k1⟩
    · rcases hold id' _ h2 with ⟨_, rfl⟩ | ⟨l2, e | h2', k2⟩
      · rfl
      · cases e
      · have := new c h3
        subst this
        rw [show ({ g with σ := g.σ ++ [c] } : Gh).σ[id']? = g.σ[id']? from σold id' l2] at h4
        exact absurd h4 (hne id' k2)
    · cases e
    · rw [show ({ g with σ := g.σ ++ [b] } : Gh).σ[id]? = g.σ[id]? from σold id l1] at h3
      rcases hold id' _ h2 with ⟨_, rfl⟩ | ⟨l2, e | h2', k2⟩
      · have := new c h4
        subst this
        exact absurd h3 (hne id k1)
      · cases e
      · rw [show ({ g with σ := g.σ ++ [b] } : Gh).σ[id']? = g.σ[id']? from σold id' l2] at h4
        exact hS.binj id id' c h1' h2' h3 h4
theorem adopt_sound {t u ty : TypeId} {x : SV} {xv yv : Value} {sv : SV} (hS : StR g S w) (hx : g.VR w x.pv xv) (hobj : S'.objs = S.objs) (ad : Bool)
    (h : AppR P g S w a t u ty x.tk (xlen x.pv) xv yv sv F' S') :
    ∃ v' w' g', (Builtin.append_ #[t, u] ty #[xv, yv]).run P w = .ok v' w' ∧ After g S w F' { S' with objs := (adoptV ad S.objs x sv.pv).2 } a w' g' ∧
      g'.VR w' (adoptV ad S.objs x sv.pv).1 v' ∧ TkR g' F'.toks S'.htoks w' sv.tk (adoptV ad S.objs x sv.pv).1 v' := by
  obtain ⟨v', w', g', hrun, hA, y, k, rfl, hv, hk, had⟩ := h
  have same : ∃ v' w' g', (Builtin.append_ #[t, u] ty #[xv, yv]).run P w = .ok v' w' ∧ After g S w F' { S' with objs := S.objs } a w' g' ∧ g'.VR w' y v' ∧ TkR g' F'.toks S'.htoks w' k y v' :=
    ⟨v', w', g', hrun, by rw [← hobj]; exact hA, hv, hk⟩
  simp only [SV.pv, SV.tk]
  unfold adoptV
  cases ad with
  | false => exact same
  | true =>
    simp only
    split
    · rename_i sz es
      split
      · rename_i n q hq
        split
        · exact same
        · rename_i hn
          have key : es.length ≠ xlen x.pv ∧ ∀ b, xv.ownBlock = some b → x.tk ≠ some .full → ∃ id, q = some id ∧ S.objs[id]? = some Ob.blk ∧ g.σ[id]? = some b := by
            unfold lastAd at hq
            split at hq
            · cases hq
              refine ⟨by simpa [SV.pv, xlen] using hn, fun b hb _ => ?_⟩
              cases hx; cases hb
            · cases hq
              exact ⟨by simpa [SV.pv, xlen] using hn, fun b hb hf => absurd rfl hf⟩
            · rename_i id0 sz' es' k'
              split at hq
              · rename_i hid
                cases hq
                refine ⟨by simpa [SV.pv, xlen] using hn, fun b hb _ => ⟨_, rfl, hid, ?_⟩⟩
                cases hx with
                | sl _ _ _ b' o cap gv _ ha _ _ _ _ =>
                  simp only [Value.ownBlock, Option.some.injEq] at hb
                  subst hb
                  rcases ha with e | ⟨e, _⟩ | ⟨id', e, h'⟩
                  · cases e
                  · cases e
                  · cases e; exact h'
              · cases hq
            · cases hq
          obtain ⟨b, cap, arr, ty', rfl, hb, hfree, hwhere⟩ := had sz es rfl key.1
          let objs' : List Ob := killB q S.objs
          have hl : objs'.length = S'.objs.length := by rw [hobj]; cases q <;> simp [objs', killB]
          have ho : ∀ (id : Nat) (x : Ob), objs'[id]? = some x → x = Ob.dead ∨ S'.objs[id]? = some x := by
            intro id z hz
            rw [hobj]
            cases q with
            | none => exact .inr hz
            | some i =>
              have hz : (S.objs.set i Ob.dead)[id]? = some z := hz
              rw [List.getElem?_set] at hz
              split at hz
              · split at hz
                · exact .inl (Option.some.inj hz).symm
                · cases hz
              · exact .inr hz
          have hne : ∀ (id : Nat), objs'[id]? = some Ob.blk → g'.σ[id]? ≠ some b := by
            intro id hid he
            have hid0 : S.objs[id]? = some Ob.blk := by
              rcases ho id _ hid with e | h
              · cases e
              · rwa [hobj] at h
            obtain ⟨b0, q1, _, arr0, ty0, q3⟩ := hS.blks id hid0
            have := hA.tr.sigma id b0 q1
            rw [he] at this; cases this
            rcases hwhere with hge | ⟨hown, hf⟩
            · have := (Array.getElem?_eq_some_iff.1 q3).1; omega
            · obtain ⟨i, rfl, hi, hσ⟩ := key.2 b hown hf
              have e := hS.binj id i b hid0 hi q1 hσ
              subst e
              have hid : (S.objs.set id Ob.dead)[id]? = some Ob.blk := hid
              rw [List.getElem?_set] at hid
              simp at hid
          have hS2 := hA.st.adopt hl ho hfree ⟨arr, ty', hb⟩ hne
          have t := adopt_tr g' b w'
          refine ⟨_, w', { g' with σ := g'.σ ++ [b] }, hrun, ⟨?_, hS2, ?_, ?_⟩, ?_, ?_⟩
          · exact hA.fr.keep t (fun s h => h) (TokTr.refl _ _ _) (TokTr.refl _ _ _) hA.fr.toks hA.fr.psi
          · exact hA.tr.trans (t.weaken (fun o h => h.elim))
          · exact hA.tok
          · have hv2 := t.vr hv
            cases hv2 with
            | sl _ _ _ _ o cap' gv h1 ha h3 h4 h5 h6 =>
              refine .sl _ sz es b 0 cap gv h1 (.inr (.inr ⟨S.objs.length, rfl, ?_⟩)) h3 h4 h5 h6
              show (g'.σ ++ [b])[S.objs.length]? = some b
              rw [← hobj, ← hA.st.sigma, List.getElem?_append_right (Nat.le_refl _)]; simp
            | sl0 _ p h1 =>
              refine .sl _ sz [] b 0 0 (fun _ => Go.undef) h1 (.inr (.inr ⟨S.objs.length, rfl, ?_⟩)) (Nat.le_refl _) (fun i hi => by simp at hi) (fun i hi => by simp at hi) (fun i j hi => by simp at hi)
              show (g'.σ ++ [b])[S.objs.length]? = some b
              rw [← hobj, ← hA.st.sigma, List.getElem?_append_right (Nat.le_refl _)]; simp
          · have hk2 : TkR { g' with σ := g'.σ ++ [b] } F'.toks S'.htoks w' k (.sl none sz es) (.slice (some ⟨b, 0, none⟩) es.length cap) := hk.keep (TokTr.refl _ _ _) (TokTr.refl _ _ _)
            cases k with
            | none => trivial
            | some k => cases k with
              | full => exact hk2
              | loc s => exact hk2
              | hp s => exact hk2
      · exact same
    · exact same
end
end Go.Abs
namespace Go.Abs
def heapO (o : Own) : Prop := (∃ id, o = .obj id) ∨ ∃ t, o = .htok t
structure CallR (g : Gh) (S : St) (w : World) (r : PV) (S' : St) (v : Value) (w' : World) (g' : Gh) : Prop where
  st : StR g' S' w'
  vr : g'.VR w' r v
  tr : Tr heapO g g' w w'
  tok : TokTr S.htoks S'.htoks g.τ g'.τ w w'
  psi : g'.ψ = g.ψ
def CallS (P : Program) (call : CallF) : Prop := ∀ f args S r S' g w (vs : Array Value), call f args S = some (r, S') → StR g S w → args.length = vs.size →
  (∀ i, i < args.length → g.VR w (args.getD i .undef) (vs.getD i Go.undef)) → Calls P f vs w fun e w' => ∃ v g', e = .returned v ∧ CallR g S w r S' v w' g'
def Named (P : Program) : Prop := ∀ (f : FuncId) (fn : Func), P.funcs[f]? = some fn → fn.body.isSome = true → (fn.name == "runtime.NumGoroutine") = false
def CallB (P : Program) (call : CallF) : Prop := ∀ (f : FuncId) args S r, call f args S = some r → ∃ fn : Func, P.funcs[f]? = some fn ∧ fn.body.isSome = true
section
variable {P : Program} {T : Hints} {call : CallF} {g g' : Gh} {F : Fr} {S : St} {w w' : World} {a : Act} {f : FuncId} {free : Bool} {o : Oper} {F' : Fr} {S' : St} {K : Act → World → Prop} {Q : Exit → Act → World → Prop}
theorem exec_v {s : Sem Value} {r : Value} (h : s.run P w = .ok r w') : (do pure (.value (← s)) : Sem Next).run P w = .ok (.value r) w' := by
  rw [Sem.run_bind, h]; rfl
theorem wp_value {r : Value} (h : (execOp a.eval o).run P w = .ok (.value r) w') (hK : K (a.put o.dst r) w') : o.wp P a w K Q := by
  unfold Oper.wp; rw [h]; exact hK
theorem wp_skip' (h : (execOp a.eval o).run P w = .ok .skip w') (hK : K (a.put o.dst Go.undef) w') : o.wp P a w K Q := by
  unfold Oper.wp; rw [h]; exact hK
theorem quiet_close (hF : FrR g F S.htoks w a) (hS : StR g S w) {x : SV} {r : Value} (hr : (execOp a.eval o).run P w = .ok (.value r) w) (hx : OpdR g F S.htoks w a x r) (hn : ∀ d, o.dst = some d → x.notTo d = true)
    (hK : ∀ a' w' g', After g S w (F.put o.dst x) S a' w' g' → K a' w') : o.wp P a w K Q :=
  wp_value hr (hK _ _ g ⟨hF.put _ _ _ hx (fun t ht s o' e => by subst e; have := hn t ht; simpa [SV.notTo] using this), hS, Tr.refl _ _ _, TokTr.refl _ _ _⟩)
theorem val_some {x : Option SV} (h : (x.bind fun x => (chk (match o.dst with | some d => x.notTo d | none => true)).map fun _ => (F.put o.dst x, S)) = some (F', S')) :
    ∃ y, x = some y ∧ F' = F.put o.dst y ∧ S' = S ∧ ∀ d, o.dst = some d → y.notTo d = true := by
  obtain ⟨y, hy, h⟩ := Option.bind_eq_some_iff.1 h
  obtain ⟨c, hc, h⟩ := Option.map_eq_some_iff.1 h
  cases h
  have hc := chk_some hc
  exact ⟨y, hy, rfl, rfl, fun d hd => by rw [hd] at hc; exact hc⟩
theorem pv_some {x : Option PV} (h : (x.map fun x => (F.put o.dst (.v x none), S)) = some (F', S')) : ∃ y, x = some y ∧ F' = F.put o.dst (.v y none) ∧ S' = S := by
  obtain ⟨y, hy, h⟩ := Option.map_eq_some_iff.1 h
  cases h
  exact ⟨y, hy, rfl, rfl⟩
theorem pv_close (hF : FrR g F S.htoks w a) (hS : StR g S w) {y : PV} {r : Value} (hr : (execOp a.eval o).run P w = .ok (.value r) w) (hy : g.VR w y r)
    (hK : ∀ a' w' g', After g S w (F.put o.dst (.v y none)) S a' w' g' → K a' w') : o.wp P a w K Q :=
  quiet_close (x := .v y none) hF hS hr ⟨hy, trivial⟩ (fun _ _ => rfl) hK
theorem bd_some (hF : FrR g F S.htoks w a) {x : Option Operand} {n : Option Int} (h : optInt F x = some n) : BdR g w n (x.map a.eval) := by
  cases x with
  | none => cases h; trivial
  | some x =>
    obtain ⟨m, hm, rfl⟩ := Option.map_eq_some_iff.1 h
    obtain ⟨k, hk⟩ := asInt_some hm
    have := opvR hF x
    rw [hk] at this
    exact ⟨k, this.int'⟩
theorem args_rel (hF : FrR g F S.htoks w a) (xs : Array Operand) : ∀ i, i < (xs.toList.map (opv F)).length → g.VR w ((xs.toList.map (opv F)).getD i .undef) ((xs.map a.eval).toList.getD i Go.undef) := by
  intro i hi
  simp only [List.length_map, Array.length_toList] at hi
  have := opvR hF xs[i]
  simpa [List.getD_eq_getElem?_getD, hi] using this
theorem alloc_sound {t : TypeId} (ht : o.op = .alloc t) (hF : FrR g F S.htoks w a) (hS : StR g S w) (h : evalO P T call f free o F S = some (F', S')) (hK : ∀ a' w' g', After g S w F' S' a' w' g' → K a' w') : o.wp P a w K Q := by
  unfold evalO at h
  rw [ht] at h
  simp only at h
  obtain ⟨z, hz, h⟩ := Option.bind_eq_some_iff.1 h
  obtain ⟨i, zv, hi, hzv, hc, hlen, hrun⟩ := zeroOf_sound (g := g) (w := w) hz
  have hex : (execOp a.eval o).run P w = .ok (.value (.pointer (some ⟨w.heap.size, 0, none⟩))) (w.alloc (.cells zv.cells t)) := by
    unfold execOp
    rw [ht]
    refine exec_v ?_
    simp [Instr.alloc, hrun, newVar, newRow]
  cases hd : o.dst with
  | none => rw [hd] at h; cases h
  | some d =>
    rw [hd] at h
    simp only at h
    split at h
    · have plain : ∀ {S1 : St}, { S with objs := S.objs ++ [.cells (z.map fun c => (c, none))] } = S1 → F.set d (.v (.ref S.objs.length 0) none) = F' → S1 = S' → o.wp P a w K Q := by
        rintro S1 rfl rfl rfl
        obtain ⟨g', hA⟩ := after_obj hF hS d z zv.cells t (.ref S.objs.length 0) (.pointer (some ⟨w.heap.size, 0, none⟩)) hc (fun g' hg' => .ref _ _ _ hg')
        exact wp_value hex (by rw [hd]; exact hK _ _ _ hA)
      have h1 := congrArg Prod.fst (Option.some.inj h)
      have h2 := congrArg Prod.snd (Option.some.inj h)
      simp only at h1 h2
      unfold newOb at h2
      split at h2
      · rename_i t0 e0 _
        split at h2
        · rename_i ht
          obtain ⟨rfl, hTe⟩ := ht
          have hz : zv.cells = #[.pointer none, .slice none 0 0] := by
            obtain ⟨hl, hv⟩ := hc
            have v0 := (hv 0 (by simp)).1
            have v1 := (hv 1 (by simp)).1
            simp at hl
            generalize hq : zv.cells = q at *
            obtain ⟨l⟩ := q
            match l, hl with
            | [x, y], _ =>
              simp at v0 v1
              cases v0
              cases v1
              rfl
          rw [hz] at hex
          obtain ⟨g', hA⟩ := after_bld hF hS d t e0 hTe
          rw [← h1, ← h2] at hK
          exact wp_value hex (by rw [hd]; exact hK _ _ _ hA)
        · exact plain rfl h1 h2
      · exact plain rfl h1 h2
    · obtain ⟨c, hc', h⟩ := Option.map_eq_some_iff.1 h
      cases h
      have hA := after_box hF hS d (z.map fun c => (c, none)) zv.cells t hc.cells (chk_some hc')
      exact wp_value hex (by rw [hd]; exact hK _ _ _ hA)
theorem box_sound {t : TypeId} {x : Operand} (ht : o.op = .box t x) (hF : FrR g F S.htoks w a) (hS : StR g S w) (h : evalO P T call f free o F S = some (F', S')) (hK : ∀ a' w' g', After g S w F' S' a' w' g' → K a' w') : o.wp P a w K Q := by
  unfold evalO at h
  rw [ht] at h
  simp only at h
  obtain ⟨n, hn, h⟩ := Option.bind_eq_some_iff.1 h
  obtain ⟨cs, hcs, h⟩ := Option.bind_eq_some_iff.1 h
  obtain ⟨h1, h2, h3⟩ := newCells_sound (opdR hF x) hcs
  have hex : (execOp a.eval o).run P w = .ok (.value (.pointer (some ⟨w.heap.size, 0, none⟩))) (w.alloc (.cells (a.eval x).cells t)) := by
    unfold execOp
    rw [ht]
    refine exec_v ?_
    simp [Instr.box, newVar, newRow]
  cases hd : o.dst with
  | none => rw [hd] at h; cases h
  | some d =>
    rw [hd] at h
    simp only at h
    split at h
    · cases h
      have hc : CsR g w (cs.map (·.1)) (a.eval x).cells.toList := by
        refine ⟨by rw [List.length_map]; exact h3.1, fun i hi => ?_⟩
        simp only [List.length_map] at hi
        obtain ⟨q1, _, q3⟩ := h3.2 i cs[i] (List.getElem?_eq_getElem hi)
        exact ⟨by simpa [List.getD_eq_getElem?_getD, hi] using q1, q3⟩
      obtain ⟨g', hA⟩ := after_obj hF hS d (cs.map (·.1)) (a.eval x).cells t (.ref S.objs.length 0) (.pointer (some ⟨w.heap.size, 0, none⟩)) hc (fun g' hg' => .ref _ _ _ hg')
      rw [List.map_map] at hA
      exact wp_value hex (by rw [hd]; exact hK _ _ _ hA)
    · obtain ⟨c, hc', h⟩ := Option.map_eq_some_iff.1 h
      cases h
      have hA := after_box hF hS d cs (a.eval x).cells t h3 (chk_some hc')
      exact wp_value hex (by rw [hd]; exact hK _ _ _ hA)
theorem call_sound {gg : Operand} {as : Array Operand} {ts : Array TypeId} (hN : Named P) (hC : CallS P call) (hB : CallB P call) (ht : o.op = .call ⟨.value gg, as, ts⟩) (hF : FrR g F S.htoks w a) (hS : StR g S w) (h : evalO P T call f free o F S = some (F', S'))
    (hK : ∀ a' w' g', After g S w F' S' a' w' g' → K a' w') : o.wp P a w K Q := by
  unfold evalO at h
  rw [ht] at h
  simp only at h
  have hg := opvR hF gg
  cases hop : opv F gg with
  | fn k caps =>
    rw [hop] at h hg
    simp only at h
    obtain ⟨r, hr, h⟩ := Option.map_eq_some_iff.1 h
    cases h
    obtain ⟨fn, hfn, hbody⟩ := hB k _ _ _ hr
    have hname := hN k fn hfn hbody
    generalize hgv : a.eval gg = gv at hg
    cases hg with
    | fn _ _ vs hl hv =>
      have hex : (execOp a.eval o).run P w = .ok (.enter k (as.map a.eval ++ vs)) w := by
        unfold execOp
        rw [ht]
        have hb : ¬ fn.body = none := by intro e; rw [e] at hbody; cases hbody
        have hname' : ¬ fn.name = "runtime.NumGoroutine" := by simpa using hname
        simp [resolve, hgv, Deferred.ofValue, invoke, callFunc, hfn, hname', hb]
      have hcall := hC k (as.toList.map (opv F) ++ caps) S r.1 r.2 g w (as.map a.eval ++ vs) hr hS (by simp [hl]) (fun i hi => by
        by_cases hlt : i < as.size
        · have := args_rel hF as i (by simpa using hlt)
          simp only [List.getD_eq_getElem?_getD, Array.getD_eq_getD_getElem?] at this ⊢
          rw [List.getElem?_append_left (by simpa using hlt), Array.getElem?_append_left (by simpa using hlt)]
          simpa using this
        · simp only [List.length_append, List.length_map, Array.length_toList] at hi
          have := hv (i - as.size) (by omega)
          simp only [List.getD_eq_getElem?_getD, Array.getD_eq_getD_getElem?] at this ⊢
          rw [List.getElem?_append_right (by simpa using Nat.not_lt.1 hlt), Array.getElem?_append_right (by simpa using Nat.not_lt.1 hlt)]
          simpa using this)
      unfold Oper.wp
      rw [hex]
      simp only [Oper.upon]
      refine hcall.mono fun e w1 he => ?_
      obtain ⟨v, g1, rfl, hR⟩ := he
      refine hK _ _ g1 ⟨?_, hR.st, hR.tr.weaken (fun o ho e => by rcases ho with ⟨_, h⟩ | ⟨_, h⟩ <;> rw [h] at e <;> cases e), hR.tok⟩
      have t1 : TokTr F.toks F.toks g.ψ g1.ψ w w1 := by
        rw [hR.psi]
        refine ⟨Nat.le_refl _, fun t n sz _ hn => ⟨n, hn, .inr ⟨rfl, fun b hb => ⟨hb, ?_⟩⟩⟩⟩
        obtain ⟨b', q1, q2, _, q4⟩ := hF.toks t n sz hn
        rw [hb] at q1; cases q1
        exact (hR.tr.oth b _ q4 q2 (by rintro (⟨_, h⟩ | ⟨_, h⟩) <;> cases h)).2.2
      have b1 : TokB g1 .tok F.toks g1.ψ w1 := by
        rw [hR.psi]
        intro t n sz hn
        obtain ⟨b', q1, q2, q3, q4⟩ := hF.toks t n sz hn
        obtain ⟨p1, p2, _⟩ := hR.tr.oth b' _ q4 q2 (by rintro (⟨_, h⟩ | ⟨_, h⟩) <;> cases h)
        exact ⟨b', q1, p1, p2.trans q3, Nat.lt_of_lt_of_le q4 hR.tr.size⟩
      have hfr := hF.keep hR.tr (fun s h => by rcases h with ⟨_, h⟩ | ⟨_, h⟩ <;> cases h) t1 hR.tok b1 (by rw [hR.psi]; exact hF.psi)
      exact hfr.putV o.dst r.1 none v hR.vr trivial
  | _ => rw [hop] at h; simp only at h; cases h
end
end Go.Abs
namespace Go.Abs
section
variable {P : Program} {T : Hints} {call : CallF} {g g' : Gh} {F : Fr} {S : St} {w w' : World} {a : Act} {f : FuncId} {free : Bool} {o : Oper} {F' : Fr} {S' : St} {K : Act → World → Prop} {Q : Exit → Act → World → Prop}
theorem flatten_get {α : Type} (d : α) (zs : List α) (h : 0 < zs.length) : ∀ (l i : Nat), i < l * zs.length → (List.replicate l zs).flatten.getD i d = zs.getD (i % zs.length) d
  | 0, i, hi => by simp at hi
  | l + 1, i, hi => by
    rw [List.replicate_succ, List.flatten_cons, List.getD_eq_getElem?_getD]
    by_cases hlt : i < zs.length
    · rw [List.getElem?_append_left hlt, Nat.mod_eq_of_lt hlt, List.getD_eq_getElem?_getD]
    · rw [List.getElem?_append_right (Nat.not_lt.1 hlt), ← List.getD_eq_getElem?_getD, flatten_get d zs h l _ (by rw [Nat.add_mul, Nat.one_mul] at hi; omega), Nat.mod_eq_sub_mod (Nat.not_lt.1 hlt)]
theorem flatten_length {α : Type} (zs : List α) (l : Nat) : (List.replicate l zs).flatten.length = l * zs.length := by simp
theorem zeros_rel {z : List PV} {zv : Value} {n : Nat} (hc : CsR g w z zv.cells.toList) (hz : 0 < z.length) : CsR g w (List.replicate n z).flatten ((Array.range (n * z.length)).map (zv.cells[· % zv.cells.size]!)).toList := by
  have hsz : zv.cells.size = z.length := by simpa using hc.1
  refine ⟨by simp, fun i hi => ?_⟩
  rw [flatten_length] at hi
  rw [flatten_get _ _ hz _ _ hi]
  have hm := Nat.mod_lt i hz
  have hlt : i % z.length < zv.cells.size := by omega
  have e1 : (((Array.range (n * z.length)).map (zv.cells[· % zv.cells.size]!)).toList).getD i Go.undef = zv.cells.toList.getD (i % z.length) Go.undef := by
    simp only [List.getD_eq_getElem?_getD, Array.getElem?_toList, Array.getElem?_map, Array.getElem?_range, hi, if_true, Option.map_some, Option.getD_some, hsz]
    rw [Array.getElem?_eq_getElem hlt, Option.getD_some]
    exact getElem!_pos zv.cells (i % z.length) hlt
  rw [e1]
  exact hc.2 _ hm
theorem makeSlice_sound {t : TypeId} {lo co : Operand} (hop : o.op = .makeSlice t lo co) (hF : FrR g F S.htoks w a) (hS : StR g S w) (h : evalO P T call f free o F S = some (F', S'))
    (hK : ∀ a' w' g', After g S w F' S' a' w' g' → K a' w') : o.wp P a w K Q := by
  unfold evalO at h
  rw [hop] at h
  simp only at h
  obtain ⟨l, hl, h'⟩ := Option.bind_eq_some_iff.1 h; clear h; have h := h'; clear h'
  obtain ⟨c, hc, h'⟩ := Option.bind_eq_some_iff.1 h; clear h; have h := h'; clear h'
  split at h
  · rename_i e hu
    obtain ⟨i, hi, h'⟩ := Option.bind_eq_some_iff.1 h; clear h; have h := h'; clear h'
    obtain ⟨z, hz, h'⟩ := Option.bind_eq_some_iff.1 h; clear h; have h := h'; clear h'
    obtain ⟨u, hk, h'⟩ := Option.bind_eq_some_iff.1 h; clear h; have h := h'; clear h'
    have hk := chk_some hk
    simp only [Bool.and_eq_true, decide_eq_true_eq] at hk
    obtain ⟨⟨⟨⟨rfl, h0⟩, hsz⟩, hroom⟩, hlen⟩ := hk
    obtain ⟨kl, hl'⟩ := asInt_some hl
    obtain ⟨kc, hc'⟩ := asInt_some hc
    have el := opvR hF lo
    have ec := opvR hF co
    rw [hl'] at el; rw [hc'] at ec
    have el := el.int'
    have ec := ec.int'
    obtain ⟨i', zv, hi', hzv, hze, hok, hzr, hzrun⟩ := zeroPV_sound (g := g) (w := w) hz
    rw [hi] at hi'; cases hi'
    obtain ⟨hcs, hcl⟩ := CsR.of' hzr hok
    have hwrap : IntKind.i64.wrap l = l := by
      unfold room at hlen
      simp [IntKind.wrap, IntKind.signed, IntKind.bits]
      omega
    have hnn : l = (l.toNat : Int) := by omega
    generalize hL : l.toNat = L at *
    have hzsz : zv.cells.size = i.size := by simpa [hcl] using hcs.1
    have hrun : (Instr.makeSlice t (.int kl l) (.int kc l)).run P w = .ok (.slice (some ⟨w.heap.size, 0, none⟩) L L)
        (w.alloc (.cells ((Array.range (L * i.size)).map (zv.cells[· % zv.cells.size]!)) e)) := by
      have hnot : ¬ (281474976710656 : Int) < (i.bytes : Int) * (L : Int) := by
        have : i.bytes * L ≤ room := by rw [Nat.mul_comm]; exact hroom
        unfold room at this
        have := Int.ofNat_le.2 this
        rw [Int.natCast_mul] at this
        generalize (i.bytes : Int) * (L : Int) = p at *
        omega
      have hn0 : ¬ ((L : Int) < 0) := by omega
      simp only [Instr.makeSlice, Sem.run_bind, run_underlying hu, Result.andThen_ok, Go.asInt, asIntOf, Sem.run_pure, typeInfo, run_program, hi, hwrap]
      rw [hnn]
      simp [hn0, hnot, Go.sizeOf, typeInfo, hi, newRow]
      by_cases hz0 : L = 0
      · subst hz0; simp [show Array.range 0 = #[] from rfl]
      · have : ¬ i.size = 0 := by omega
        simp [hz0, this, hzrun]
        intro hbad
        exfalso
        rcases Nat.mul_eq_zero.1 hbad with h | h <;> omega
    have hex : (execOp a.eval o).run P w = .ok (.value (.slice (some ⟨w.heap.size, 0, none⟩) L L)) (w.alloc (.cells ((Array.range (L * i.size)).map (zv.cells[· % zv.cells.size]!)) e)) := by
      unfold execOp
      rw [hop]
      refine exec_v ?_
      rw [el, ec]; exact hrun
    have hrel : CsR g w (List.replicate L z.cells).flatten ((Array.range (L * i.size)).map (zv.cells[· % zv.cells.size]!)).toList := by
      have := zeros_rel (n := L) hcs (by omega)
      rw [hcl] at this; exact this
    cases hd : o.dst with
    | none => rw [hd] at h; cases h
    | some d =>
      rw [hd] at h
      simp only at h
      split at h
      · cases h
        obtain ⟨g', hA⟩ := after_obj hF hS d _ _ e (.ar S.objs.length i.size 0 L) (.slice (some ⟨w.heap.size, 0, none⟩) L L) hrel (fun g' hg' => by
          have this : g'.VR (w.alloc (.cells ((Array.range (L * i.size)).map (zv.cells[· % zv.cells.size]!)) e)) (.ar S.objs.length i.size 0 L) (.slice (some ⟨w.heap.size, 0 * i.size, none⟩) L L) := .ar _ _ _ _ _ _ hg' (Nat.le_refl _)
          rw [Nat.zero_mul] at this; exact this)
        exact wp_value hex (by rw [hd]; exact hK _ _ _ hA)
      · cases h
        obtain ⟨g', hA⟩ := after_new hF hS (some d) ((Array.range (L * i.size)).map (zv.cells[· % zv.cells.size]!)) e (.sl none i.size (List.replicate L z)) (some .full) (.slice (some ⟨w.heap.size, 0, none⟩) L L) (fun g' tr hO => by
          have hnew := heap_alloc_new w (.cells ((Array.range (L * i.size)).map (zv.cells[· % zv.cells.size]!)) e)
          have key := VR.sl (σ := g'.σ) (I := g'.imm) (N := g'.plain (w.alloc (.cells ((Array.range (L * i.size)).map (zv.cells[· % zv.cells.size]!)) e))) (w := w.alloc (.cells ((Array.range (L * i.size)).map (zv.cells[· % zv.cells.size]!)) e))
            none i.size (List.replicate L z) w.heap.size 0 L (fun j => ((Array.range (L * i.size)).map (zv.cells[· % zv.cells.size]!)).toList.getD j Go.undef) hsz (.inl rfl) (by simp) (fun j hj => by
              simp at hj; simp [hj, hcl]) (fun j hj => by
              simp only [List.length_replicate] at hj
              have := (hrel.2 j (by rw [flatten_length, hcl]; exact hj)).2
              refine ⟨?_, .inl hO, this⟩
              rw [Nat.zero_add, cell_of_row _ _ _ _ _ _ hnew, List.getD_eq_getElem?_getD, Array.getElem?_toList, Array.getElem?_eq_getElem (by simpa using hj), Option.getD_some]) (fun k j hk hj => by
              simp only [List.length_replicate] at hk
              have hlt : k * i.size + j < L * i.size := by
                have : (k + 1) * i.size ≤ L * i.size := Nat.mul_le_mul_right _ hk
                rw [Nat.add_mul, Nat.one_mul] at this; omega
              have := (hrel.2 (k * i.size + j) (by rw [flatten_length, hcl]; exact hlt)).1
              rw [flatten_get _ _ (by omega) _ _ (by rw [hcl]; exact hlt), hcl, Nat.mul_comm k, Nat.mul_add_mod, Nat.mod_eq_of_lt hj] at this
              have := tr.vr this
              simpa [hk, PV.cell, Nat.mul_comm] using this)
          simpa using key) (.inr ⟨rfl, _, _, rfl⟩)
        exact wp_value hex (by rw [hd]; exact hK _ _ _ hA)
  · cases h
theorem VR.single {x : PV} {v : Value} (h : g.VR w x v) (h1 : v.oneCell' = true) : x.cells = [x] := by
  cases h <;> first | rfl | cases h1
theorem elems_get (agg : Bool) (sz : Nat) (hsz : 0 < sz) (h1 : agg = false → sz = 1) : ∀ (n : Nat) (cs : List PV), cs.length = n * sz → (∀ i, i < cs.length → True) → (elems agg sz n cs).length = n ∧
    ∀ k, k < n → (agg = true → ((elems agg sz n cs).getD k .undef).cells.length = sz) ∧ ∀ j, j < sz → (agg = true → ((elems agg sz n cs).getD k .undef).cell j = cs.getD (k * sz + j) .undef) ∧ (agg = false → (elems agg sz n cs).getD k .undef = cs.getD k .undef)
  | 0, cs, hl, _ => ⟨rfl, fun k hk => by omega⟩
  | n + 1, cs, hl, _ => by
    obtain ⟨a1, a2⟩ := elems_get agg sz hsz h1 n (cs.drop sz) (by simp [hl, Nat.add_mul]) (fun _ _ => trivial)
    rw [Nat.add_mul, Nat.one_mul] at hl
    refine ⟨by simp [elems, a1], fun k hk => ?_⟩
    cases k with
    | zero =>
      refine ⟨fun ha => ?_, fun j hj => ⟨fun ha => ?_, fun ha => ?_⟩⟩
      · simp [elems, ha, PV.cells]; omega
      · simp [elems, ha, PV.cell, PV.cells, List.getD_eq_getElem?_getD, List.getElem?_take, hj]
      · simp [elems, ha]
    | succ k =>
      obtain ⟨b1, b2⟩ := a2 k (by omega)
      refine ⟨fun ha => ?_, fun j hj => ⟨fun ha => ?_, fun ha => ?_⟩⟩
      · have := b1 ha; simpa [elems] using this
      · have := (b2 j hj).1 ha
        simp only [elems, List.getD_cons_succ]
        rw [this]
        simp only [List.getD_eq_getElem?_getD, List.getElem?_drop]
        congr 2
        rw [Nat.add_mul]; omega
      · have hs := h1 ha
        subst hs
        have := (b2 0 (by omega)).2 ha
        simp only [elems, List.getD_cons_succ]
        rw [this]
        simp only [List.getD_eq_getElem?_getD, List.getElem?_drop]
        congr 2
        omega
theorem buildSlice_sound {t : TypeId} {n : Nat} {ps : Array (Nat × Operand)} (hop : o.op = .buildSlice t n ps) (hF : FrR g F S.htoks w a) (hS : StR g S w) (h : evalO P T call f free o F S = some (F', S'))
    (hK : ∀ a' w' g', After g S w F' S' a' w' g' → K a' w') : o.wp P a w K Q := by
  unfold evalO at h
  rw [hop] at h
  simp only at h
  obtain ⟨y, hy, rfl, rfl, hn⟩ := val_some h
  clear h
  obtain ⟨x, hx, rfl⟩ := Option.map_eq_some_iff.1 hy
  clear hy
  unfold buildSl at hx
  split at hx
  · rename_i e hu
    obtain ⟨sz, hsz, h1⟩ := Option.bind_eq_some_iff.1 hx
    clear hx
    obtain ⟨z, hz, h2⟩ := Option.bind_eq_some_iff.1 h1
    clear h1
    split at h2
    · rename_i hn0
      split at h2
      · cases h2
      · rename_i hk
        simp only [not_or] at hk
        cases h2
        obtain ⟨dd, i, hdd, hi, hsz2⟩ := szOf_some hsz
        have hps : ps = #[] := by
          have := hk.2
          apply Array.ext'
          simpa [List.isEmpty_iff] using this
        subst hps
        subst hn0
        have hex : (execOp a.eval o).run P w = .ok (.value (.slice (some ⟨w.heap.size, 0, none⟩) 0 0)) (w.alloc (.cells #[] e)) := by
          unfold execOp
          rw [hop]
          refine exec_v ?_
          simp [Instr.buildSlice, run_underlying hu, sizeOf, typeInfo, hi, Instr.fill, newRow]
          congr 2
          apply Array.eq_empty_of_size_eq_zero
          simp
        obtain ⟨g', hA⟩ := after_new hF hS o.dst #[] e (.sl none sz []) (some .full) (.slice (some ⟨w.heap.size, 0, none⟩) 0 0) (fun g' tr hO => by
          have key : g'.VR (w.alloc (.cells #[] e)) (.sl none sz []) (.slice (some ⟨w.heap.size, 0, none⟩) ([] : List PV).length 0) :=
            .sl none sz _ w.heap.size 0 0 (fun _ => Go.undef) (by omega) (.inl rfl) (by simp) (fun k hk => by simp at hk) (fun j hj => by simp at hj) (fun k j hk hj => by simp at hk)
          exact key) (.inr ⟨rfl, _, _, rfl⟩)
        exact wp_value hex (hK _ _ _ hA)
    split at h2
    · cases h2
    · rename_i hk
      simp only [not_or, Nat.not_lt] at hk
      obtain ⟨hk1, hk2, hk3, hk4⟩ := hk
      obtain ⟨cs, hcs, rfl⟩ := Option.map_eq_some_iff.1 h2
      clear h2
      obtain ⟨i, zv, hi, hzv, hc, hlen, _⟩ := zeroOf_sound (g := g) (w := w) hz
      obtain ⟨dd, i2, hdd, hi2, hsz2⟩ := szOf_some hsz
      rw [hi] at hi2; cases hi2
      have hzr := zeros_rel (n := n) hc (by omega)
      rw [hlen, hsz2] at hzr
      obtain ⟨arr, hfill, hrel, hcsl⟩ := fill_sound (ps.toList.map fun p => (p.1, opv F p.2)) ((ps.map fun (i, x) => (i, a.eval x)).toList) _ cs ((Array.range (n * sz)).map (zv.cells[· % zv.cells.size]!)) hzr (by simp) (fun k hk => by
        simp only [List.length_map, Array.length_toList] at hk
        have := opvR hF ps[k].2
        simpa [List.getD_eq_getElem?_getD, hk] using this) hcs
      have hrun := run_buildSlice (P := P) w t e n (ps.map fun (i, x) => (i, a.eval x)) arr i zv hu hi hzv (by rw [hsz2]; omega) (by rw [hsz2]; intro hb; rcases Nat.mul_eq_zero.1 hb with h | h <;> omega) (by rw [hsz2]; exact hfill)
      have hex : (execOp a.eval o).run P w = .ok (.value (.slice (some ⟨w.heap.size, 0, none⟩) n n)) (w.alloc (.cells arr e)) := by
        unfold execOp
        rw [hop]
        exact exec_v hrun
      have hcsl' : cs.length = n * sz := by rw [hcsl, flatten_length, hlen, hsz2]
      obtain ⟨el, eg⟩ := elems_get (aggOf P e) sz (by omega) (fun ha => by
        rcases Nat.lt_or_ge 1 sz with h | h
        · exact absurd (And.intro (show sz ≠ 1 by omega) ha) hk4
        · omega) n cs hcsl' (fun _ _ => trivial)
      obtain ⟨g', hA⟩ := after_new hF hS o.dst arr e (.sl none sz (elems (aggOf P e) sz n cs)) (some .full) (.slice (some ⟨w.heap.size, 0, none⟩) n n) (fun g' tr hO => by
        have hnew := heap_alloc_new w (.cells arr e)
        have hal : arr.size = n * sz := by have := hrel.1; simp at this; omega
        have key : g'.VR (w.alloc (.cells arr e)) (.sl none sz (elems (aggOf P e) sz n cs)) (.slice (some ⟨w.heap.size, 0, none⟩) (elems (aggOf P e) sz n cs).length n) := by
          refine .sl none sz _ w.heap.size 0 n (fun j => arr.toList.getD j Go.undef) (by omega) (.inl rfl) (by omega) (fun k hk => ?_) (fun j hj => ?_) (fun k j hk hj => ?_)
          · rw [el] at hk
            cases ha : aggOf P e with
            | true => rw [ha] at eg; exact (eg k hk).1 rfl
            | false =>
              have hs1 : sz = 1 := by
                rcases Nat.lt_or_ge 1 sz with h | h
                · exact absurd (And.intro (show sz ≠ 1 by omega) ha) hk4
                · omega
              subst hs1
              rw [ha] at eg
              rw [((eg k hk).2 0 (by omega)).2 rfl]
              have hq := hrel.2 k (by omega)
              rw [VR.single hq.1 hq.2]; rfl
          · rw [el] at hj
            have := (hrel.2 j (by omega)).2
            refine ⟨?_, .inl hO, this⟩
            rw [Nat.zero_add, cell_of_row _ _ _ _ _ _ hnew, List.getD_eq_getElem?_getD, Array.getElem?_toList, Array.getElem?_eq_getElem (by omega), Option.getD_some]
          · rw [el] at hk
            have hlt : k * sz + j < n * sz := by
              have : (k + 1) * sz ≤ n * sz := Nat.mul_le_mul_right _ hk
              rw [Nat.add_mul, Nat.one_mul] at this; omega
            have hq := hrel.2 (k * sz + j) (by omega)
            have := tr.vr hq.1
            cases ha : aggOf P e with
            | true =>
              rw [ha] at eg
              rw [((eg k hk).2 j hj).1 rfl]; exact this
            | false =>
              have hs1 : sz = 1 := by
                rcases Nat.lt_or_ge 1 sz with h | h
                · exact absurd (And.intro (show sz ≠ 1 by omega) ha) hk4
                · omega
              subst hs1
              rw [ha] at eg
              rw [((eg k hk).2 0 (by omega)).2 rfl]
              have hj0 : j = 0 := by omega
              subst hj0
              simp only [Nat.mul_one, Nat.add_zero] at hq this ⊢
              unfold PV.cell
              rw [VR.single hq.1 hq.2]; exact this
        rw [el] at key; exact key) (.inr ⟨rfl, _, _, rfl⟩)
      exact wp_value hex (hK _ _ _ hA)
  · cases hx
end
end Go.Abs
namespace Go.Abs
section
variable {P : Program} {T : Hints} {call : CallF} {g g' : Gh} {F : Fr} {S : St} {w w' : World} {a : Act} {f : FuncId} {free : Bool} {o : Oper} {F' : Fr} {S' : St} {K : Act → World → Prop} {Q : Exit → Act → World → Prop}
theorem S?_or (free : Bool) (S : St) : (if free then none else some S) = none ∨ (if free then none else some S) = some S := by cases free <;> simp
def quietOp (o : Oper) : Bool := match o.op with
  | .move _ | .assign _ | .pick .. | .load .. | .nilCheck _ | .binOp .. | .unOp .. | .convert .. | .makeFunc .. | .slice .. | .fieldAddr .. | .field .. | .indexAddr .. | .index .. | .lookup .. | .build .. | .extract .. => true
  | .call { callee := .builtin .len, .. } | .call { callee := .builtin .max, .. } | .call { callee := .builtin .min, .. } => true
  | _ => false
theorem max_run {args : Array Value} {v r : Value} {rest : List Value} {ats : Array TypeId} {ty : TypeId} (h : args.toList = v :: rest) (hr : (rest.foldlM Builtin.max2 v).run P w = .ok r w) : (Builtin.max_ ats ty args).run P w = .ok r w := by
  unfold Builtin.max_; rw [h]; exact hr
theorem min_run {args : Array Value} {v r : Value} {rest : List Value} {ats : Array TypeId} {ty : TypeId} (h : args.toList = v :: rest) (hr : (rest.foldlM Builtin.min2 v).run P w = .ok r w) : (Builtin.min_ ats ty args).run P w = .ok r w := by
  unfold Builtin.min_; rw [h]; exact hr
theorem quiet_sound (hq : quietOp o = true) (hF : FrR g F S.htoks w a) (hS : StR g S w) (h : evalO P T call f free o F S = some (F', S')) :
    ∃ x r, F' = F.put o.dst x ∧ S' = S ∧ (∀ d, o.dst = some d → x.notTo d = true) ∧ (execOp a.eval o).run P w = .ok (.value r) w ∧ OpdR g F S.htoks w a x r := by
  have pvr : ∀ {y : Option PV}, (y.map fun x => (F.put o.dst (.v x none), S)) = some (F', S') → (∀ z, y = some z → ∃ r, (execOp a.eval o).run P w = .ok (.value r) w ∧ g.VR w z r) →
      ∃ x r, F' = F.put o.dst x ∧ S' = S ∧ (∀ d, o.dst = some d → x.notTo d = true) ∧ (execOp a.eval o).run P w = .ok (.value r) w ∧ OpdR g F S.htoks w a x r := by
    intro y hy hh
    obtain ⟨z, hz, rfl, rfl⟩ := pv_some hy
    obtain ⟨r, hr, hv⟩ := hh z hz
    exact ⟨.v z none, r, rfl, rfl, fun _ _ => rfl, hr, hv, trivial⟩
  have svr : ∀ {y : Option SV}, (y.bind fun x => (chk (match o.dst with | some d => x.notTo d | none => true)).map fun _ => (F.put o.dst x, S)) = some (F', S') → (∀ z, y = some z → ∃ r, (execOp a.eval o).run P w = .ok (.value r) w ∧ OpdR g F S.htoks w a z r) →
      ∃ x r, F' = F.put o.dst x ∧ S' = S ∧ (∀ d, o.dst = some d → x.notTo d = true) ∧ (execOp a.eval o).run P w = .ok (.value r) w ∧ OpdR g F S.htoks w a x r := by
    intro y hy hh
    obtain ⟨z, hz, rfl, rfl, hn⟩ := val_some hy
    obtain ⟨r, hr, hv⟩ := hh z hz
    exact ⟨z, r, rfl, rfl, hn, hr, hv⟩
  unfold evalO at h
  unfold quietOp at hq
  cases hop : o.op with
  | move x =>
    rw [hop] at h
    refine svr h fun z hz => ⟨a.eval x, by unfold execOp; rw [hop]; rfl, ?_⟩
    cases hz; exact opdR hF x
  | assign x =>
    rw [hop] at h
    refine svr h fun z hz => ⟨a.eval x, by unfold execOp; rw [hop]; rfl, ?_⟩
    cases hz; exact opdR hF x
  | pick c x y =>
    rw [hop] at h
    simp only at h
    obtain ⟨b, hb, h1⟩ := Option.bind_eq_some_iff.1 h
    have hc := opvR hF c
    rw [asBool_some hb] at hc
    have hc := hc.bool'
    refine svr h1 fun z hz => ⟨if b then a.eval x else a.eval y, ?_, ?_⟩
    · unfold execOp; rw [hop]
      simp only [hc, Go.asBool, Sem.run_bind, Sem.run_pure, Result.andThen_ok]
    · cases hz
      cases b
      · exact opdR hF y
      · exact opdR hF x
  | load t p =>
    rw [hop] at h
    simp only at h
    obtain ⟨n, hn, h1⟩ := Option.bind_eq_some_iff.1 h
    refine svr h1 fun z hz => ?_
    obtain ⟨z', hz', rfl⟩ := Option.map_eq_some_iff.1 hz
    obtain ⟨r, hr, y, k, rfl, hv, hk⟩ := ld_sound (S?_or free S) hF hS (opdR hF p) hn hz'
    refine ⟨r, by unfold execOp; rw [hop]; exact exec_v hr, hv, ?_⟩
    cases isSlice P t
    · trivial
    · exact hk
  | nilCheck x =>
    rw [hop] at h
    refine svr h fun z hz => ?_
    obtain ⟨h1, h2⟩ := nilc_sound (P := P) hop rfl (opdR hF x) hz
    exact ⟨_, h1, h2⟩
  | binOp op t x y ty =>
    rw [hop] at h
    refine pvr h fun z hz => ?_
    obtain ⟨r, hr, hv⟩ := binA_sound (xo := x) (yo := y) hS (opvR hF x) (opvR hF y) hz
    exact ⟨r, by unfold execOp; rw [hop]; exact exec_v hr, hv⟩
  | unOp op t x =>
    rw [hop] at h
    refine pvr h fun z hz => ?_
    obtain ⟨r, hr, hv⟩ := unA_sound (P := P) (opvR hF x) hz
    exact ⟨r, by unfold execOp; rw [hop]; exact exec_v hr, hv⟩
  | convert s d x =>
    rw [hop] at h
    refine pvr h fun z hz => ?_
    obtain ⟨r, hr, hv⟩ := convA_sound (opvR hF x) hz
    exact ⟨r, by unfold execOp; rw [hop]; exact exec_v hr, hv⟩
  | makeFunc fn first caps =>
    rw [hop] at h
    cases fn with
    | func k =>
      simp only at h
      split at h
      · rename_i he
        refine pvr h fun z hz => ?_
        cases hz
        have he : first = #[] := by simpa [Array.isEmpty_iff] using he
        subst he
        refine ⟨.func (.func k) #[] (caps.map a.eval), by unfold execOp; rw [hop]; exact exec_v (by simp [Instr.makeFunc]), .fn k _ _ (by simp) (fun i hi => ?_)⟩
        have := args_rel hF caps i hi
        simpa [Array.getD_eq_getD_getElem?, List.getD_eq_getElem?_getD] using this
      · cases h
    | _ => cases h
  | slice t x lo hi mx =>
    rw [hop] at h
    simp only at h
    obtain ⟨l, hl, h1⟩ := Option.bind_eq_some_iff.1 h
    obtain ⟨hh, hh', h2⟩ := Option.bind_eq_some_iff.1 h1
    obtain ⟨m, hm, h3⟩ := Option.bind_eq_some_iff.1 h2
    clear h h1 h2
    split at h3
    · rename_i hs
      split at h3
      · rename_i hmn
        subst hmn
        refine pvr h3 fun z hz => ?_
        have b3 := bd_some hF hm
        have hmx : mx = none := by
          cases mx with
          | none => rfl
          | some x => exact b3.elim
        subst hmx
        obtain ⟨r, hr, hv⟩ := strSlc_sound (opvR hF x) hs (bd_some hF hl) (bd_some hF hh') hz
        exact ⟨r, by unfold execOp; rw [hop]; exact exec_v hr, hv⟩
      · cases h3
    · obtain ⟨⟨sz, by', ag⟩, he, h4⟩ := Option.bind_eq_some_iff.1 h3
      refine svr h4 fun z hz => ?_
      obtain ⟨q, hq', rfl⟩ := Option.map_eq_some_iff.1 hz
      obtain ⟨r, hr, hv, hk⟩ := slc_sound (ft := F.toks) (ht := S.htoks) (opvR hF x) he (bd_some hF hl) (bd_some hF hh') (bd_some hF hm) hq'
      exact ⟨r, by unfold execOp; rw [hop]; exact exec_v hr, hv, hk⟩
  | fieldAddr t x i =>
    rw [hop] at h
    simp only at h
    obtain ⟨⟨off, n, ag⟩, hf, h1⟩ := Option.bind_eq_some_iff.1 h
    simp only at h1
    split at h1
    · cases h1
    · rename_i h0
      refine svr h1 fun z hz => ?_
      obtain ⟨r, hr, hv⟩ := fadr_sound (opdR hF x) hf h0 hz
      exact ⟨r, by unfold execOp; rw [hop]; exact exec_v hr, hv⟩
  | field t x i =>
    rw [hop] at h
    simp only at h
    obtain ⟨⟨off, n, ag⟩, hf, h1⟩ := Option.bind_eq_some_iff.1 h
    refine svr h1 fun z hz => ?_
    obtain ⟨r, hr, y, k, rfl, hv, hk⟩ := fieldA_sound (F := F) (ht := S.htoks) (opvR hF x) hf hz
    exact ⟨r, by unfold execOp; rw [hop]; exact exec_v hr, hv, hk⟩
  | indexAddr t x i =>
    rw [hop] at h
    simp only at h
    obtain ⟨n, hn, h1⟩ := Option.bind_eq_some_iff.1 h
    obtain ⟨⟨sz, by', ag⟩, he, h2⟩ := Option.bind_eq_some_iff.1 h1
    refine pvr h2 fun z hz => ?_
    obtain ⟨k, hk⟩ := asInt_some hn
    have hi := opvR hF i
    rw [hk] at hi
    have hi := hi.int'
    obtain ⟨r, hr, hv⟩ := iadr_sound (k := k) (opvR hF x) he hz
    exact ⟨r, by unfold execOp; rw [hop]; rw [← hi] at hr; exact exec_v hr, hv⟩
  | index t x i =>
    rw [hop] at h
    simp only at h
    split at h
    · rename_i hs
      obtain ⟨n, hn, h1⟩ := Option.bind_eq_some_iff.1 h
      refine pvr h1 fun z hz => ?_
      obtain ⟨k, hk⟩ := asInt_some hn
      have hi := opvR hF i
      rw [hk] at hi
      have hi := hi.int'
      obtain ⟨r, hr, hv⟩ := idx_sound (k := k) (opvR hF x) hs hz
      exact ⟨r, by unfold execOp; rw [hop]; rw [← hi] at hr; exact exec_v hr, hv⟩
    · cases h
  | lookup t m k ok =>
    rw [hop] at h
    simp only at h
    obtain ⟨⟨kt, et⟩, hm, h1⟩ := Option.bind_eq_some_iff.1 h
    obtain ⟨S1, hS1, h2⟩ := Option.bind_eq_some_iff.1 h1
    obtain ⟨u, hu, h3⟩ := Option.bind_eq_some_iff.1 h2
    obtain ⟨es, hes, h4⟩ := Option.bind_eq_some_iff.1 h3
    obtain ⟨r, hr, h5⟩ := Option.bind_eq_some_iff.1 h4
    obtain ⟨z, hz, h6⟩ := Option.bind_eq_some_iff.1 h5
    have hS1 : S1 = S := by cases free <;> simp at hS1; exact hS1.symm
    subst hS1
    refine pvr h6 fun z' hz' => ?_
    cases hz'
    obtain ⟨v, hv, hvr⟩ := lookup_sound (ok := ok) hS hm (opvR hF m) (opvR hF k) (chk_some hu) hes hr hz
    exact ⟨v, by unfold execOp; rw [hop]; exact exec_v hv, hvr⟩
  | build t ps =>
    rw [hop] at h
    refine pvr h fun z hz => ?_
    obtain ⟨r, hr, hv⟩ := buildA_sound (g := g) (w := w) (vs := ps.map fun (i, x) => (i, a.eval x)) (by simp) (fun k hk => by
      simp only [List.length_map, Array.length_toList] at hk
      have := opvR hF ps[k].2
      simpa [List.getD_eq_getElem?_getD, hk] using this) hz
    exact ⟨r, by unfold execOp; rw [hop]; exact exec_v hr, hv⟩
  | extract x i =>
    rw [hop] at h
    simp only at h
    obtain ⟨u, hu, h1⟩ := Option.bind_eq_some_iff.1 h
    have hu := of_decide_eq_true (chk_some hu)
    refine pvr h1 fun z hz => ?_
    cases hz
    have hx := opvR hF x
    generalize opv F x = y at hu hx
    generalize hev : a.eval x = xv at hx
    cases hx <;> simp [PV.comps] at hu
    rename_i cs vs hl hv
    refine ⟨vs.getD i Go.undef, ?_, hv i hu⟩
    unfold execOp; rw [hop]
    refine exec_v ?_
    rw [hev]
    simp [Instr.extract, show i < vs.size by omega]
  | call c =>
    obtain ⟨callee, as, ts⟩ := c
    rw [hop] at h hq
    cases callee with
    | value gg => simp at hq
    | invoke r m => simp at hq
    | builtin b =>
      cases b <;> simp only at hq <;> try (cases hq)
      ·
        simp only at h
        split at h
        · rename_i x t hx ht
          have hx : as = #[x] := by apply Array.ext'; simpa using hx
          have ht : ts = #[t] := by apply Array.ext'; simpa using ht
          subst hx; subst ht
          have fin : ∀ n, (Builtin.len_ #[t] o.type #[a.eval x]).run P w = .ok (.int .i64 n) w → (execOp a.eval o).run P w = .ok (.value (.int .i64 n)) w := by
            intro n hn
            unfold execOp; rw [hop]
            simp only [resolve, invoke, builtin, Sem.run_bind, Sem.run_pure, Result.andThen_ok, List.map_toArray, List.map_cons, List.map_nil, hn]
          split at h
          · rename_i ke hke
            obtain ⟨S1, hS1, h1⟩ := Option.bind_eq_some_iff.1 h
            obtain ⟨es, hes, h2⟩ := Option.bind_eq_some_iff.1 h1
            have hS1 : S1 = S := by cases free <;> simp at hS1; exact hS1.symm
            subst hS1
            refine pvr h2 fun z hz => ?_
            cases hz
            exact ⟨_, fin _ (lenMap_sound (ty := o.type) (kt := ke.1) (et := ke.2) hS hke (opvR hF x) hes), .int _ _⟩
          · split at h
            · rename_i hs
              refine pvr h fun z hz => ?_
              obtain ⟨n, hn, rfl⟩ := Option.map_eq_some_iff.1 hz
              exact ⟨_, fin _ (lenStr_sound (ty := o.type) hs (opvR hF x) hn), .int _ _⟩
            · split at h
              · rename_i hs
                refine pvr h fun z hz => ?_
                obtain ⟨n, hn, rfl⟩ := Option.map_eq_some_iff.1 hz
                exact ⟨_, fin _ (lenSl_sound (ty := o.type) hs (opvR hF x) hn), .int _ _⟩
              · cases h
        · cases h
      ·
        refine pvr h fun z hz => ?_
        obtain ⟨v, rest, r, hv, hr, hvr⟩ := foldInt_sound (P := P) (f2 := Builtin.max2) (fun k a b => rfl) (as.toList.map (opv F)) ((as.map a.eval).toList) z (by simp) (args_rel hF as) hz
        refine ⟨r, ?_, hvr⟩
        unfold execOp; rw [hop]
        simp only [resolve, invoke, builtin, Sem.run_bind, Sem.run_pure, Result.andThen_ok, max_run hv hr]
      ·
        refine pvr h fun z hz => ?_
        obtain ⟨v, rest, r, hv, hr, hvr⟩ := foldInt_sound (P := P) (f2 := Builtin.min2) (fun k a b => rfl) (as.toList.map (opv F)) ((as.map a.eval).toList) z (by simp) (args_rel hF as) hz
        refine ⟨r, ?_, hvr⟩
        unfold execOp; rw [hop]
        simp only [resolve, invoke, builtin, Sem.run_bind, Sem.run_pure, Result.andThen_ok, min_run hv hr]
  | _ => rw [hop] at hq; simp at hq
theorem store_sound {t : TypeId} {p x : Operand} (hop : o.op = .store t p x) (hF : FrR g F S.htoks w a) (hS : StR g S w) (h : evalO P T call f free o F S = some (F', S'))
    (hK : ∀ a' w' g', After g S w F' S' a' w' g' → K a' w') : o.wp P a w K Q := by
  unfold evalO at h
  rw [hop] at h
  simp only at h
  obtain ⟨n, hn, h1⟩ := Option.bind_eq_some_iff.1 h
  obtain ⟨r, hr, h2⟩ := Option.map_eq_some_iff.1 h1
  cases h2
  obtain ⟨w', g', hrun, hA⟩ := sto_sound hF hS (opdR hF p) (opdR hF x) hn hr
  have hex : (execOp a.eval o).run P w = .ok .skip w' := by
    unfold execOp; rw [hop]
    simp only [Sem.run_bind, hrun, Result.andThen_ok, Sem.run_pure]
  exact wp_skip' hex (hK _ _ g' ⟨hA.fr.putV o.dst .undef none _ (.undef _) trivial, hA.st, hA.tr, hA.tok⟩)
theorem mapUp_sound {t : TypeId} {m k v : Operand} (hop : o.op = .mapUpdate t m k v) (hF : FrR g F S.htoks w a) (hS : StR g S w) (h : evalO P T call f free o F S = some (F', S'))
    (hK : ∀ a' w' g', After g S w F' S' a' w' g' → K a' w') : o.wp P a w K Q := by
  unfold evalO at h
  rw [hop] at h
  simp only at h
  obtain ⟨⟨kt, et⟩, hm, h1⟩ := Option.bind_eq_some_iff.1 h
  have hM := opvR hF m
  cases hmv : opv F m <;> rw [hmv] at h1 hM <;> simp only at h1 <;> try (cases h1)
  rename_i id
  cases hob : S.objs[id]? with
  | none => rw [hob] at h1; cases h1
  | some ob =>
    rw [hob] at h1
    cases ob with
    | cells cs => cases h1
    | dead => cases h1
    | blk => cases h1
    | bld _ _ _ => cases h1
    | map es =>
      simp only at h1
      obtain ⟨u, hu, h2⟩ := Option.bind_eq_some_iff.1 h1
      obtain ⟨es', hes', h3⟩ := Option.map_eq_some_iff.1 h2
      cases h3
      obtain ⟨w', hrun, hA⟩ := mapUpdate_sound hF hS hm hM (opvR hF k) (opvR hF v) (chk_some hu) hob hes'
      have hex : (execOp a.eval o).run P w = .ok .skip w' := by
        unfold execOp; rw [hop]
        simp only [Sem.run_bind, hrun, Result.andThen_ok, Sem.run_pure]
      exact wp_skip' hex (hK _ _ g ⟨hA.fr.putV o.dst .undef none _ (.undef _) trivial, hA.st, hA.tr, hA.tok⟩)
theorem append_op_sound {as : Array Operand} {ts : Array TypeId} (hop : o.op = .call ⟨.builtin .append, as, ts⟩) (hF : FrR g F S.htoks w a) (hS : StR g S w) (h : evalO P T call f free o F S = some (F', S'))
    (hK : ∀ a' w' g', After g S w F' S' a' w' g' → K a' w') : o.wp P a w K Q := by
  unfold evalO at h
  rw [hop] at h
  simp only at h
  split at h
  · rename_i x y t t' hx ht
    obtain ⟨y', hy, h⟩ := Option.bind_eq_some_iff.1 h
    have hx : as = #[x, y] := by apply Array.ext'; simpa using hx
    have ht : ts = #[t, t'] := by apply Array.ext'; simpa using ht
    subst hx; subst ht
    have harg : ArgR P g w t t' y' (a.eval y) := by
      unfold appArg at hy
      split at hy
      · rename_i e
        cases hy
        exact .inl ⟨e.symm, opvR hF y⟩
      · split at hy
        · rename_i hb
          simp only [Bool.and_eq_true] at hb
          have hyr := opvR hF y
          split at hy
          · rename_i s hs
            cases hy
            rw [hs] at hyr
            refine .inr ⟨s, hb.1, ?_, rfl, ?_⟩
            · have := hb.2
              unfold isStr at this
              split at this
              · assumption
              · cases this
            · generalize a.eval y = q at hyr ⊢
              cases hyr; rfl
          · cases hy
        · cases hy
    obtain ⟨r, hr, h1⟩ := Option.map_eq_some_iff.1 h
    cases h1
    have hobj : r.2.2.objs = S.objs := by
      unfold appendA at hr
      obtain ⟨q, _, rfl⟩ := Option.map_eq_some_iff.1 hr
      rfl
    have hxr : g.VR w (opd F x).pv (a.eval x) := opvR hF x
    obtain ⟨v', w', g', hrun, hA, hv, hk⟩ := adopt_sound hS hxr hobj (T.ad f) (appendA_sound (ty := o.type) hF hS (opdR hF x) harg (sv := r.1) (F' := r.2.1) (S' := r.2.2) hr)
    have hex : (execOp a.eval o).run P w = .ok (.value v') w' := by
      unfold execOp; rw [hop]
      simp only [resolve, invoke, builtin, Sem.run_bind, Sem.run_pure, Result.andThen_ok, List.map_toArray, List.map_cons, List.map_nil, hrun]
    exact wp_value hex (hK _ _ g' ⟨hA.fr.putV o.dst _ _ v' hv hk, hA.st, hA.tr, hA.tok⟩)
  · cases h
theorem op_sound (hN : Named P) (hC : CallS P call) (hB : CallB P call) (hF : FrR g F S.htoks w a) (hS : StR g S w) (h : evalO P T call f free o F S = some (F', S'))
    (hK : ∀ a' w' g', After g S w F' S' a' w' g' → K a' w') : o.wp P a w K Q := by
  cases hq : quietOp o with
  | true =>
    obtain ⟨x, r, rfl, rfl, hn, hr, hx⟩ := quiet_sound hq hF hS h
    exact quiet_close hF hS hr hx hn hK
  | false =>
    unfold quietOp at hq
    cases hop : o.op with
    | alloc t => exact alloc_sound hop hF hS h hK
    | box t x => exact box_sound hop hF hS h hK
    | store t p x => exact store_sound hop hF hS h hK
    | mapUpdate t m k v => exact mapUp_sound hop hF hS h hK
    | makeSlice t l c => exact makeSlice_sound hop hF hS h hK
    | buildSlice t n ps => exact buildSlice_sound hop hF hS h hK
    | makeMap t r =>
      unfold evalO at h
      rw [hop] at h
      cases r with
      | some x => cases h
      | none =>
        cases h
        obtain ⟨g', hA⟩ := after_map hF hS o.dst
        have hex : (execOp a.eval o).run P w = .ok (.value (.map (some w.heap.size))) (w.alloc (.map #[] 0)) := by
          unfold execOp; rw [hop]
          exact exec_v (by simp [Instr.makeMap])
        exact wp_value hex (hK _ _ _ hA)
    | call c =>
      obtain ⟨callee, as, ts⟩ := c
      cases callee with
      | value gg => exact call_sound hN hC hB hop hF hS h hK
      | invoke r m => unfold evalO at h; rw [hop] at h; cases h
      | builtin b =>
        rw [hop] at hq
        cases b <;> simp only at hq <;> first | (cases hq; done) | exact append_op_sound hop hF hS h hK | (unfold evalO at h; rw [hop] at h; cases h; done)
    | move x => rw [hop] at hq; simp at hq
    | assign x => rw [hop] at hq; simp at hq
    | pick => rw [hop] at hq; simp at hq
    | load => rw [hop] at hq; simp at hq
    | nilCheck => rw [hop] at hq; simp at hq
    | binOp => rw [hop] at hq; simp at hq
    | unOp => rw [hop] at hq; simp at hq
    | convert => rw [hop] at hq; simp at hq
    | makeFunc => rw [hop] at hq; simp at hq
    | slice => rw [hop] at hq; simp at hq
    | fieldAddr => rw [hop] at hq; simp at hq
    | field => rw [hop] at hq; simp at hq
    | indexAddr => rw [hop] at hq; simp at hq
    | index => rw [hop] at hq; simp at hq
    | lookup => rw [hop] at hq; simp at hq
    | build => rw [hop] at hq; simp at hq
    | extract => rw [hop] at hq; simp at hq
    | _ => unfold evalO at h; rw [hop] at h; cases h
end
end Go.Abs
namespace Go.Abs
section
variable {P : Program} {T : Hints} {call : CallF} {g g' : Gh} {F : Fr} {S : St} {w w' : World} {a : Act} {f : FuncId} {F' : Fr} {S' : St} {Q : Exit → Act → World → Prop}
theorem guard_yield (hF : FrR g F S.htoks w a) {ops : Array Oper} {j : Nat} {d : Tmp} {want b : Bool} (hd : (ops[j]?).bind (·.dst) = some d) (h : guardA (F.get d).pv want = some b) :
    (yielded ops a.tmps j == some want) = b := by
  unfold yielded
  rw [hd]
  simp only [Option.bind_some]
  have hslot : ∀ x, (F.get d).pv = x → x ≠ .undef → ∃ k, F.env[d]? = some (.v x k) := by
    intro x hx hne
    cases hg : F.get d with
    | v y k =>
      rw [hg] at hx
      simp only [SV.pv] at hx
      subst hx
      exact ⟨k, env_getV hg (by intro e; cases e; exact hne rfl)⟩
    | box cs => rw [hg] at hx; exact absurd hx.symm hne
    | lp s o => rw [hg] at hx; exact absurd hx.symm hne
  unfold guardA at h
  split at h
  · rename_i wnt b' hb
    cases h
    obtain ⟨k, hk⟩ := hslot _ hb (by simp)
    have hv := (hF.vals d _ k hk).1.bool'
    have hlt : d < a.tmps.size := by rw [hF.size]; exact (List.getElem?_eq_some_iff.1 hk).1
    have : a.tmps[d]? = some (.bool b') := by
      rw [Array.getD_eq_getD_getElem?, Array.getElem?_eq_getElem hlt, Option.getD_some] at hv
      rw [Array.getElem?_eq_getElem hlt, hv]
    rw [this]
    cases b' <;> cases wnt <;> rfl
  · rename_i wnt hb
    cases h
    obtain ⟨k, hk⟩ := hslot _ hb (by simp)
    have hv := (hF.vals d _ k hk).1
    have hlt : d < a.tmps.size := by rw [hF.size]; exact (List.getElem?_eq_some_iff.1 hk).1
    have : a.tmps[d]? = some (.tuple #[]) := by
      generalize hvv : a.tmps.getD d Go.undef = v at hv
      cases hv with
      | tup _ vs hl _ =>
        have : vs = #[] := by
          have : vs.size = 0 := by simpa using hl.symm
          exact Array.eq_empty_of_size_eq_zero this
        subst this
        rw [Array.getD_eq_getD_getElem?, Array.getElem?_eq_getElem hlt, Option.getD_some] at hvv
        rw [Array.getElem?_eq_getElem hlt, hvv]
    rw [this]
    cases wnt <;> rfl
  · cases h
theorem guard_sound (hN : Named P) (hC : CallS P call) (hB : CallB P call) {ops : Array Oper} {free : Bool} {i : Nat} {o : Oper} (ho : ops[i]? = some o) (hF : FrR g F S.htoks w a) (hS : StR g S w)
    (h : evalG P T call f ops.toList free o F S = some (F', S')) {K : Act → World → Prop} (hK : ∀ a' w' g', After g S w F' S' a' w' g' → K a' w') : wpOp P ops Q i K a w := by
  unfold wpOp
  simp only [ho]
  unfold evalG at h
  unfold Region.wanted
  cases hg : o.guard with
  | none =>
    rw [hg] at h
    simp only [if_true]
    exact .inl (op_sound hN hC hB hF hS h hK)
  | some jw =>
    obtain ⟨j, want⟩ := jw
    rw [hg] at h
    simp only at h ⊢
    cases hd : (ops[j]?).bind (·.dst) with
    | none => rw [Array.getElem?_toList] at h; rw [hd] at h; cases h
    | some d =>
      rw [Array.getElem?_toList, hd] at h
      obtain ⟨b, hb, h1⟩ := Option.bind_eq_some_iff.1 h
      have hy := guard_yield hF hd hb
      cases b with
      | true =>
        rw [if_pos hy]
        simp only [if_true] at h1
        exact .inl (op_sound hN hC hB hF hS h1 hK)
      | false =>
        rw [if_neg (by rw [hy]; simp)]
        simp only [Bool.false_eq_true, if_false] at h1
        cases h1
        refine hK _ _ g ⟨hF.putV o.dst _ none Go.undef ?_ trivial, hS, Tr.refl _ _ _, TokTr.refl _ _ _⟩
        exact .tup [] #[] rfl (fun i hi => by simp at hi)
theorem evalL_sound (hN : Named P) (hC : CallS P call) (hB : CallB P call) {ops : Array Oper} {free : Nat → Bool} : ∀ (l : List Oper) (i : Nat) {F : Fr} {S : St} {g : Gh} {w : World} {a : Act}, (∀ (k : Nat) x, l[k]? = some x → ops[i + k]? = some x) →
    FrR g F S.htoks w a → StR g S w → evalL P T call f ops.toList free i l F S = some (F', S') → (∀ a' w' g', After g S w F' S' a' w' g' → Q .normal a' w') → wpOps P ops Q (List.range' i l.length) a w
  | [], i, F, S, g, w, a, _, hF, hS, h, hQ => by
    cases h
    exact hQ _ _ g ⟨hF, hS, Tr.refl _ _ _, TokTr.refl _ _ _⟩
  | o :: l, i, F, S, g, w, a, hl, hF, hS, h, hQ => by
    simp only [evalL] at h
    obtain ⟨r, hr, h1⟩ := Option.bind_eq_some_iff.1 h
    rw [List.length_cons, List.range'_succ, wpOps_cons]
    refine guard_sound hN hC hB (hl 0 o rfl) hF hS hr (fun a' w' g' hA => ?_)
    refine evalL_sound hN hC hB l (i + 1) (fun k x hk => ?_) hA.fr hA.st h1 (fun a'' w'' g'' hA' => hQ _ _ _ (hA.trans hA'))
    have := hl (k + 1) x (by simpa using hk)
    rw [show i + 1 + k = i + (k + 1) by omega]; exact this
theorem FrR.forget {ht : Toks} (h : FrR g F ht w a) : ∀ ts, FrR g (F.forget ts) ht w a := by
  intro ts
  induction ts generalizing F with
  | nil => exact h
  | cons t ts ih =>
    refine ih ?_
    by_cases hd : t < F.env.length
    · refine ⟨by simp [Fr.set, h.size], h.defers, fun s x k hs => ?_, fun s cs hs => ?_, fun s u o cs hs hu => ?_, h.toks, h.psi⟩
      · simp only [Fr.set] at hs
        rw [set_get _ _ _ _ hd] at hs
        split at hs
        · cases hs; exact ⟨.undef _, trivial⟩
        · exact h.vals s x k hs
      · simp only [Fr.set] at hs
        rw [set_get _ _ _ _ hd] at hs
        split at hs
        · cases hs
        · exact h.boxes s cs hs
      · simp only [Fr.set] at hs hu
        rw [set_get _ _ _ _ hd] at hs hu
        split at hs
        · cases hs
        · split at hu
          · cases hu
          · exact h.lps s u o cs hs hu
    · have : F.set t (.v .undef none) = F := by simp only [Fr.set]; rw [List.set_eq_of_length_le (Nat.not_lt.1 hd)]
      rw [this]; exact h
theorem clr_get {t : Tmp} {x : SV} (h : F.clr.env[t]? = some x) : ∃ y, F.env[t]? = some y ∧ x = y.clr := by
  unfold Fr.clr at h
  rw [List.getElem?_map] at h
  obtain ⟨y, hy, rfl⟩ := Option.map_eq_some_iff.1 h
  exact ⟨y, hy, rfl⟩
theorem FrR.clr {ht : Toks} (h : FrR g F ht w a) : FrR g F.clr ht w a := by
  refine ⟨by simp [Fr.clr, h.size], h.defers, fun s x k hs => ?_, fun s cs hs => ?_, fun s u o cs hs hu => ?_, h.toks, h.psi⟩
  · obtain ⟨y, hy, he⟩ := clr_get hs
    cases y with
    | v y' k' => cases he; exact h.vals s _ _ hy
    | box cs => cases he
    | lp s' o => cases he; exact ⟨.undef _, trivial⟩
  · obtain ⟨y, hy, he⟩ := clr_get hs
    cases y with
    | v y k' => cases he
    | box cs' => cases he; exact h.boxes s _ hy
    | lp s' o => cases he
  · obtain ⟨y, hy, he⟩ := clr_get hs
    cases y <;> cases he
theorem keepOnly_get {t : Tmp} {x : SV} {ts : List Tmp} (h : (keepOnly ts F).env[t]? = some x) : F.env[t]? = some x ∨ x = .v .undef none := by
  unfold keepOnly at h
  rw [List.getElem?_map, List.getElem?_zipIdx] at h
  obtain ⟨y, hy, rfl⟩ := Option.map_eq_some_iff.1 h
  obtain ⟨z, hz, rfl⟩ := Option.map_eq_some_iff.1 hy
  split
  · exact .inl hz
  · exact .inr rfl
theorem FrR.keepOnly {ht : Toks} (h : FrR g F ht w a) (ts : List Tmp) : FrR g (Abs.keepOnly ts F) ht w a := by
  refine ⟨by simp [Abs.keepOnly, h.size], h.defers, fun s x k hs => ?_, fun s cs hs => ?_, fun s u o cs hs hu => ?_, h.toks, h.psi⟩
  · rcases keepOnly_get hs with hs | hs
    · exact h.vals s x k hs
    · cases hs; exact ⟨.undef _, trivial⟩
  · rcases keepOnly_get hs with hs | hs
    · exact h.boxes s cs hs
    · cases hs
  · rcases keepOnly_get hs with hs | hs
    · rcases keepOnly_get hu with hu | hu
      · exact h.lps s u o cs hs hu
      · cases hu
    · cases hs
theorem FrR.drew {ht : Toks} (h : FrR g F ht w a) : FrR g F ht w.drew a := by
  have hG : Grow w w.drew := ⟨rfl, rfl, rfl, Nat.le_refl _, fun _ _ => rfl⟩
  have t : Tr (fun _ => False) g g w w.drew := hG.tr _ (fun _ _ => ⟨rfl, rfl⟩) (fun _ _ h => h)
  have k : ∀ ts bs, TokTr ts ts bs bs w w.drew := fun ts bs => ⟨Nat.le_refl _, fun t n sz _ h => ⟨n, h, .inr ⟨rfl, fun b hb => ⟨hb, rfl⟩⟩⟩⟩
  exact h.keep t (fun _ h => h) (k _ _) (k _ _) h.toks h.psi
theorem StR.drew (h : StR g S w) : StR g S w.drew := by
  have hG : Grow w w.drew := ⟨rfl, rfl, rfl, Nat.le_refl _, fun _ _ => rfl⟩
  exact hG.st (fun _ _ => ⟨rfl, rfl⟩) rfl rfl h
theorem After.of_drew (h : After g S w.drew F' S' a w' g') : After g S w F' S' a w' g' := by
  have hG : Grow w w.drew := ⟨rfl, rfl, rfl, Nat.le_refl _, fun _ _ => rfl⟩
  have t : Tr nf g g w w.drew := hG.tr _ (fun _ _ => ⟨rfl, rfl⟩) (fun _ _ h => h)
  have k : ∀ ts bs, TokTr ts ts bs bs w w.drew := fun ts bs => ⟨Nat.le_refl _, fun t n sz _ h => ⟨n, h, .inr ⟨rfl, fun b hb => ⟨hb, rfl⟩⟩⟩⟩
  exact ⟨h.fr, h.st, t.trans h.tr, (k _ _).trans h.tok⟩
def DrawS (P : Program) (T : Hints) (call : CallF) : Prop := ∀ (f : FuncId) (ops : Array Oper) (F : Fr) (S : St) (F' : Fr) (S' : St) (g : Gh) (w : World) (a : Act) (Q : Exit → Act → World → Prop), drawOk T f ops = true → startOk ops F = true →
  FrR g F S.htoks w a → StR g S w → (∀ x ∈ F.env, x.clr = x) → evalL P T call f ops.toList (freeAt T f ops) 0 ops.toList F S = some (F', S') → (∀ a' w' g', After g S w F' S' a' w' g' → Q .normal a' w') →
  wpAny P .any ops Q ops.size (Array.replicate ops.size false) a w
def NoLp (F : Fr) : Prop := ∀ x ∈ F.env, x.clr = x
theorem NoLp.clr (F : Fr) : NoLp F.clr := by
  intro x hx
  unfold Fr.clr at hx
  obtain ⟨y, _, rfl⟩ := List.mem_map.1 hx
  cases y <;> rfl
theorem NoLp.set {F : Fr} (h : NoLp F) (t : Tmp) : NoLp (F.set t (.v .undef none)) := by
  intro x hx
  unfold Fr.set at hx
  rcases List.mem_or_eq_of_mem_set hx with hx | rfl
  · exact h x hx
  · rfl
theorem NoLp.forget {F : Fr} (h : NoLp F) : ∀ ts, NoLp (F.forget ts) := by
  intro ts
  induction ts generalizing F with
  | nil => exact h
  | cons t ts ih => exact ih (h.set t)
theorem NoLp.keepOnly {F : Fr} (h : NoLp F) (ts : List Tmp) : NoLp (keepOnly ts F) := by
  intro x hx
  unfold Abs.keepOnly at hx
  obtain ⟨y, hy, rfl⟩ := List.mem_map.1 hx
  split
  · exact h _ (List.mem_of_getElem? (List.mem_zipIdx_iff_getElem?.1 hy))
  · rfl
theorem evalR_sound (hN : Named P) (hC : CallS P call) (hB : CallB P call) (hD : DrawS P T call) (hm : P.follows .mixedOrders = true) {id : Nat} {ops : Array Oper} {draw : Bool} (hF : FrR g F S.htoks w a) (hS : StR g S w) (hL : NoLp F)
    (h : evalR P T call f id ops draw F S = some (F', S')) (hQ : ∀ a' w' g', After g S w F' S' a' w' g' → NoLp F' → Q .normal a' w') : (Code.region id ops draw).wp P Q a w := by
  unfold evalR at h
  simp only at h
  have hF := hF.forget (T.kill f id)
  have hL := hL.forget (T.kill f id)
  cases draw with
  | true =>
    simp only [if_true] at h
    split at h
    · rename_i hok
      rw [Bool.and_eq_true] at hok
      obtain ⟨r, hr, he⟩ := Option.map_eq_some_iff.1 h
      cases he
      refine wp_region_any hm ?_
      exact hD f ops _ S _ _ g w.drew a Q hok.1 hok.2 hF.drew hS.drew hL hr (fun a' w' g' hA => hQ _ _ g' (by
        have hA := hA.of_drew
        exact ⟨(hA.fr.forget _).clr, hA.st, hA.tr, hA.tok⟩) (NoLp.clr _))
    · cases h
  | false =>
    simp only [Bool.false_eq_true, if_false] at h
    obtain ⟨r, hr, he⟩ := Option.map_eq_some_iff.1 h
    cases he
    refine wp_region ?_
    rw [List.range_eq_range']
    have := evalL_sound (Q := Q) (F' := r.1) (S' := r.2) hN hC hB ops.toList 0 (fun k x hk => by rw [Nat.zero_add, ← Array.getElem?_toList]; exact hk) hF hS hr (fun a' w' g' hA => hQ _ _ g' ⟨(hA.fr.forget _).clr, hA.st, hA.tr, hA.tok⟩ (NoLp.clr _))
    simpa using this
def ExR : Ex → Exit → Prop
  | .normal, .normal => True
  | .exit i, .exit j => i = j
  | .ret, .ret => True
  | _, _ => False
def CodeQ (g : Gh) (S : St) (w : World) (e : Ex) (F' : Fr) (S' : St) : Exit → Act → World → Prop := fun e' a' w' => ∃ g', ExR e e' ∧ After g S w F' S' a' w' g' ∧ NoLp F'
theorem condA_sound (hF : FrR g F S.htoks w a) (hL : NoLp F) {c : Operand} {b : Bool} (h : condA T f F c = some (b, F')) : a.eval c = .bool b ∧ FrR g F' S.htoks w a ∧ NoLp F' := by
  unfold condA at h
  obtain ⟨b', hb, he⟩ := Option.map_eq_some_iff.1 h
  cases he
  have := opvR hF c
  rw [asBool_some hb] at this
  refine ⟨this.bool', ?_⟩
  cases c with
  | tmp t =>
    simp only
    split
    · exact ⟨hF.forget [t], hL.set t⟩
    · exact ⟨hF, hL⟩
  | const v => exact ⟨hF, hL⟩
  | global i => exact ⟨hF, hL⟩
  | func i => exact ⟨hF, hL⟩
theorem exists_least (p : Nat → Prop) : ∀ n, p n → ∃ m, p m ∧ ∀ k, p k → m ≤ k := by
  intro n
  induction n using Nat.strongRecOn with
  | _ n ih =>
    intro hn
    by_cases h : ∃ k, k < n ∧ p k
    · obtain ⟨k, hk, hp⟩ := h; exact ih k hk hp
    · exact ⟨n, hn, fun k hk => Nat.not_lt.1 fun hlt => h ⟨k, hlt, hk⟩⟩
open Classical in
noncomputable def least (p : Nat → Prop) : Nat := if h : ∃ n, p n then (exists_least p h.choose h.choose_spec).choose else 0
theorem least_spec {p : Nat → Prop} {n : Nat} (h : p n) : p (least p) ∧ ∀ k, p k → least p ≤ k := by
  have hx : ∃ n, p n := ⟨n, h⟩
  unfold least
  rw [dif_pos hx]
  exact (exists_least p hx.choose hx.choose_spec).choose_spec
theorem wp_loop_fuel {P : Program} {c : Code} {Q : Exit → Act → World → Prop} {a : Act} {w : World} (I : Nat → Act → World → Prop) {n : Nat} (h₀ : I n a w)
    (round : ∀ m a w, I m a w → c.wp P (Exit.then (fun a' w' => ∃ m', m' < m ∧ I m' a' w') Q) a w) : (Code.loop c).wp P Q a w := by
  refine wp_loop (fun a w => ∃ m, I m a w) (fun a w => least fun m => I m a w) ⟨n, h₀⟩ (fun a w hI => ?_)
  obtain ⟨m, hm⟩ := hI
  obtain ⟨h1, _⟩ := least_spec (p := fun m => I m a w) hm
  refine wp_mono (round _ a w h1) (fun e a' w' hq => ?_)
  cases e with
  | normal =>
    obtain ⟨m', hlt, hm'⟩ := hq
    exact ⟨⟨m', hm'⟩, Nat.lt_of_le_of_lt ((least_spec (p := fun m => I m a' w') hm').2 m' hm') hlt⟩
  | _ => exact hq
theorem evalD_sound (hN : Named P) (hC : CallS P call) (hB : CallB P call) (hD : DrawS P T call) (hm : P.follows .mixedOrders = true) {n : Nat} {rs : List Tmp} (c : Code) : ∀ {F : Fr} {S : St} {g : Gh} {w : World} {a : Act} {e : Ex} {F' : Fr} {S' : St},
    FrR g F S.htoks w a → StR g S w → NoLp F → evalD P T call n f rs c F S = some (e, F', S') → c.wp P (CodeQ g S w e F' S') a w := by
  induction c with
  | skip => intro F S g w a e F' S' hF hS hL h; cases h; exact wp_skip ⟨g, trivial, ⟨hF, hS, Tr.refl _ _ _, TokTr.refl _ _ _⟩, hL⟩
  | region id ops draw =>
    intro F S g w a e F' S' hF hS hL h
    simp only [evalD] at h
    obtain ⟨r, hr, he⟩ := Option.map_eq_some_iff.1 h
    cases he
    exact evalR_sound hN hC hB hD hm hF hS hL hr (fun a' w' g' hA hL' => ⟨g', trivial, hA, hL'⟩)
  | seq x y ihx ihy =>
    intro F S g w a e F' S' hF hS hL h
    simp only [evalD] at h
    cases hx : evalD P T call n f rs x F S with
    | none => simp [hx] at h
    | some r =>
      obtain ⟨e1, F1, S1⟩ := r
      rw [hx] at h
      refine wp_seq (wp_mono (ihx hF hS hL hx) (fun e' a' w' hq => ?_))
      obtain ⟨g1, hE, hA, hL1⟩ := hq
      cases e1 with
      | normal =>
        cases e' <;> simp only [ExR] at hE
        exact wp_mono (ihy hA.fr hA.st hL1 h) (fun e'' a'' w'' hq2 => by
          obtain ⟨g2, hE2, hA2, hL2⟩ := hq2
          exact ⟨g2, hE2, hA.trans hA2, hL2⟩)
      | exit id =>
        cases h
        cases e' <;> simp only [ExR] at hE
        exact ⟨g1, hE, hA, hL1⟩
      | ret =>
        cases h
        cases e' <;> simp only [ExR] at hE
        exact ⟨g1, trivial, hA, hL1⟩
  | cond c x y ihx ihy =>
    intro F S g w a e F' S' hF hS hL h
    simp only [evalD] at h
    obtain ⟨r, hr, h1⟩ := Option.bind_eq_some_iff.1 h
    obtain ⟨b, F1⟩ := r
    obtain ⟨hb, hF1, hL1⟩ := condA_sound hF hL hr
    refine wp_cond hb ?_
    cases b with
    | true => simp only [if_true] at h1 ⊢; exact ihx hF1 hS hL1 h1
    | false => simp only [Bool.false_eq_true, if_false] at h1 ⊢; exact ihy hF1 hS hL1 h1
  | block id b ih =>
    intro F S g w a e F' S' hF hS hL h
    simp only [evalD] at h
    cases hx : evalD P T call n f rs b F S with
    | none => simp [hx] at h
    | some r =>
      obtain ⟨e1, F1, S1⟩ := r
      rw [hx] at h
      refine wp_block (wp_mono (ih hF hS hL hx) (fun e' a' w' hq => ?_))
      obtain ⟨g1, hE, hA, hL1⟩ := hq
      cases e1 with
      | normal =>
        cases h
        cases e' <;> simp only [ExR] at hE
        exact ⟨g1, trivial, hA, hL1⟩
      | exit id' =>
        simp only at h
        cases e' <;> simp only [ExR] at hE
        subst hE
        simp only [Exit.inBlock]
        split at h
        · rename_i e; rw [if_pos e]; cases h; exact ⟨g1, trivial, hA, hL1⟩
        · rename_i e; rw [if_neg e]; cases h; exact ⟨g1, rfl, hA, hL1⟩
      | ret =>
        cases h
        cases e' <;> simp only [ExR] at hE
        exact ⟨g1, trivial, hA, hL1⟩
  | loop b ih =>
    intro F S g w a e F' S' hF hS hL h
    simp only [evalD] at h
    refine wp_loop_fuel (fun m a' w' => ∃ F1 S1 g1, After g S w F1 S1 a' w' g1 ∧ NoLp F1 ∧ iter (evalD P T call n f rs b) m F1 S1 = some (e, F', S'))
      (n := n) ⟨F, S, g, ⟨hF, hS, Tr.refl _ _ _, TokTr.refl _ _ _⟩, hL, h⟩ (fun m a1 w1 hI => ?_)
    obtain ⟨F1, S1, g1, hA1, hL1, hit⟩ := hI
    cases m with
    | zero => cases hit
    | succ m =>
      rw [iter] at hit
      cases hx : evalD P T call n f rs b F1 S1 with
      | none => simp [hx] at hit
      | some r =>
        obtain ⟨e2, F2, S2⟩ := r
        rw [hx] at hit
        refine wp_mono (ih hA1.fr hA1.st hL1 hx) (fun e' a' w' hq => ?_)
        obtain ⟨g2, hE, hA2, hL2⟩ := hq
        cases e2 with
        | normal =>
          cases e' <;> simp only [ExR] at hE
          exact ⟨m, Nat.lt_succ_self m, F2, S2, g2, hA1.trans hA2, hL2, hit⟩
        | exit id =>
          cases hit
          cases e' <;> simp only [ExR] at hE
          exact ⟨g2, hE, hA1.trans hA2, hL2⟩
        | ret =>
          cases hit
          cases e' <;> simp only [ExR] at hE
          exact ⟨g2, trivial, hA1.trans hA2, hL2⟩
  | exit id => intro F S g w a e F' S' hF hS hL h; cases h; exact wp_exit ⟨g, rfl, ⟨hF, hS, Tr.refl _ _ _, TokTr.refl _ _ _⟩, hL⟩
  | ret => intro F S g w a e F' S' hF hS hL h; cases h; exact wp_ret ⟨g, trivial, ⟨hF.keepOnly rs, hS, Tr.refl _ _ _, TokTr.refl _ _ _⟩, hL.keepOnly rs⟩
  | rangeFunc _ _ _ _ => intro F S g w a e F' S' hF hS hL h; cases h
  | scope _ => intro F S g w a e F' S' hF hS hL h; cases h
  | label _ => intro F S g w a e F' S' hF hS hL h; cases h
  | goto _ => intro F S g w a e F' S' hF hS hL h; cases h
  | refuse _ => intro F S g w a e F' S' hF hS hL h; cases h
end
end Go.Abs
