/- The program's permutations: what each call comes to, in the form of the printed walks. No conditions but those that stand in the theorems. -/
import Derived.Test.YtijpcemcijaeeaaP0
import Derived.Test.YtijpcemcijaeeaaBits
import Derived.Test.YtijpcemcijaeeaaGmb
import Derived.RegionTactic
import Derived.ChangeAlike
import Derived.OneCell
import Derived.Outline
import Derived.Lib.Hide
import Derived.Shelf.Abstract
import Derived.Deep.RegionLaw
import Derived.ArgAppend
import Derived.Laws.MakeOwn

namespace Go.Proofs.Ytijpcemcijaeeaa.P
set_option linter.unusedVariables false
set_option linter.unusedSimpArgs false
open Go.RowKit Go.Proofs.Ytijpcemcijaeeaa.Bits Go.Proofs.YtijpcemcijaeeaaW.PrintWords Go.Proofs.YtijpcemcijaeeaaW.PrintLast Go.Proofs.YtijpcemcijaeeaaW.PrintMore

/-- Where the captured variables lie. -/
structure PL where
  bn : Nat
  bL : Nat
  bo : Nat
  bU : Nat
  bG : Nat
  rl : Nat
  ru : Nat
  T : Nat
structure PL.ok (p : PL) : Prop where
  nL : p.bn ≠ p.bL
  no : p.bn ≠ p.bo
  nU : p.bn ≠ p.bU
  nG : p.bn ≠ p.bG
  nl : p.bn ≠ p.rl
  nu : p.bn ≠ p.ru
  Lo : p.bL ≠ p.bo
  LU : p.bL ≠ p.bU
  LG : p.bL ≠ p.bG
  Ll : p.bL ≠ p.rl
  Lu : p.bL ≠ p.ru
  oU : p.bo ≠ p.bU
  oG : p.bo ≠ p.bG
  ol : p.bo ≠ p.rl
  ou : p.bo ≠ p.ru
  UG : p.bU ≠ p.bG
  Ul : p.bU ≠ p.rl
  Uu : p.bU ≠ p.ru
  Gl : p.bG ≠ p.rl
  Gu : p.bG ≠ p.ru
  lu : p.rl ≠ p.ru
  tn : p.bn < p.T
  tL : p.bL < p.T
  tO : p.bo < p.T
  tU : p.bU < p.T
  tG : p.bG < p.T
  tl : p.rl < p.T
  tu : p.ru < p.T

def growV (p : PL) : Value := .func (.func 133) #[] #[.pointer (some ⟨p.bL, 0, none⟩), .pointer (some ⟨p.bn, 0, none⟩), .pointer (some ⟨p.bo, 0, none⟩), .pointer (some ⟨p.bU, 0, none⟩), .pointer (some ⟨p.bG, 0, none⟩)]
def rowsK : Kd (List Int) := Kd.slice 3 (Kd.int .i64)

/-- The captured variables' state. -/
structure PSt (n : Nat) (p : PL) (w0 : World) (used : Nat → Bool) (path : List Nat) (out : List (List Int)) (w : World) : Prop where
  hn : w.heap[p.bn]? = some (.cells #[.int .i64 (n : Int)] 3 (0, 0))
  hL : w.heap[p.bL]? = some (.cells #[.slice (some ⟨p.rl, 0, none⟩) path.length n] 43 (0, 0))
  hrl : ∃ C, w.heap[p.rl]? = some (.cells C 3 (0, 0)) ∧ C.size = n ∧ ∀ j, j < path.length → C[j]? = some (.int .i64 ((path.getD j 0 : Nat) : Int))
  hU : w.heap[p.bU]? = some (.cells #[.slice (some ⟨p.ru, 0, none⟩) n n] 106 (0, 0))
  hru : ∃ C, w.heap[p.ru]? = some (.cells C 4 (0, 0)) ∧ C.size = n ∧ ∀ j, j < n → C[j]? = some (.bool (used j))
  hG : w.heap[p.bG]? = some (.cells #[growV p] 1 (0, 0))
  ho : ∃ v, w.heap[p.bo]? = some (.cells #[v] 50 (0, 0)) ∧ Kd.S rowsK 43 w p.T (fun _ => True) v out
  hB : Below w0.heap.size w0 w
  hT : p.T ≤ w.heap.size

theorem S_base_far {α : Type} {d : Kd α} {e T : Nat} {w : World} {v : Value} {xs : List α} (h : Kd.S d e w T (fun _ => True) v xs) {a : Addr} (ha : a.block < T) (u : Value) : Kd.S d e (w.setCell a u) T (fun _ => True) v xs :=
  Kd.S_mono (Kd.S_far (Kd.S_bound h) (fun k hk => by have := hk.2.1; omega) u) (fun _ _ => trivial)

theorem PSt.drewN {n : Nat} {p : PL} {w0 : World} {used : Nat → Bool} {path : List Nat} {out : List (List Int)} {w : World} (h : PSt n p w0 used path out w) (m : Nat) : PSt n p w0 used path out (w.drewN m) := by
  obtain ⟨v, h1, h2⟩ := h.ho
  exact ⟨h.hn, h.hL, h.hrl, h.hU, h.hru, h.hG, ⟨v, h1, Kd.S_drewN h2 m⟩, pw_below_drewN h.hB m, h.hT⟩

theorem put_row {w : World} {g t : Nat} {C : Array Value} (h : w.heap[g]? = some (.cells C t (0, 0))) (i : Nat) (u : Value) : (w.setCell ⟨g, i, none⟩ u).heap[g]? = some (.cells (C.setIfInBounds i u) t (0, 0)) := blk_set h i u

/-- A mark is set or struck. -/
theorem PSt.mark {n : Nat} {p : PL} (hp : p.ok) {w0 : World} {used : Nat → Bool} {path : List Nat} {out : List (List Int)} {w : World} (h : PSt n p w0 used path out w) (hBT : w0.heap.size ≤ p.ru) (k : Nat) (b : Bool) : PSt n p w0 (fun j => if j = k then b else used j) path out (w.setCell ⟨p.ru, k, none⟩ (.bool b)) := by
  obtain ⟨v, o1, o2⟩ := h.ho
  obtain ⟨C, r1, r2, r3⟩ := h.hrl
  obtain ⟨D, u1, u2, u3⟩ := h.hru
  refine ⟨blk_far h.hn hp.nu _, blk_far h.hL hp.Lu _, ⟨C, blk_far r1 hp.lu _, r2, r3⟩, blk_far h.hU hp.Uu _, ⟨_, put_row u1 k _, by simpa using u2, fun j hj => ?_⟩, blk_far h.hG hp.Gu _, ⟨v, blk_far o1 hp.ou _, S_base_far o2 hp.tu _⟩, below_set h.hB hBT, by simpa [World.setCell] using h.hT⟩
  rw [Array.getElem?_setIfInBounds]
  by_cases e : k = j
  · subst e
    rw [if_pos rfl, if_pos (by omega), if_pos rfl]
  · rw [if_neg e, if_neg (Ne.symm e)]
    exact u3 j hj

/-- The list's header is set to another length. -/
theorem PSt.head {n : Nat} {p : PL} (hp : p.ok) {w0 : World} {used : Nat → Bool} {path path' : List Nat} {out : List (List Int)} {w : World} (h : PSt n p w0 used path out w) (hBT : w0.heap.size ≤ p.bL) (hpp : ∀ j, j < path'.length → j < path.length ∧ path'.getD j 0 = path.getD j 0) : PSt n p w0 used path' out (w.setCell ⟨p.bL, 0, none⟩ (.slice (some ⟨p.rl, 0, none⟩) path'.length n)) := by
  obtain ⟨v, o1, o2⟩ := h.ho
  obtain ⟨C, r1, r2, r3⟩ := h.hrl
  obtain ⟨D, u1, u2, u3⟩ := h.hru
  refine ⟨blk_far h.hn hp.nL _, blk_put h.hL 0 _ rfl, ⟨C, blk_far r1 (Ne.symm hp.Ll) _, r2, fun j hj => ?_⟩, blk_far h.hU (Ne.symm hp.LU) _, ⟨D, blk_far u1 (Ne.symm hp.Lu) _, u2, u3⟩, blk_far h.hG (Ne.symm hp.LG) _, ⟨v, blk_far o1 (Ne.symm hp.Lo) _, S_base_far o2 hp.tL _⟩, below_set h.hB hBT, by simpa [World.setCell] using h.hT⟩
  obtain ⟨a, b⟩ := hpp j hj
  rw [b]
  exact r3 j a

/-- A block is laid. -/
theorem PSt.alloc {n : Nat} {p : PL} {w0 : World} {used : Nat → Bool} {path : List Nat} {out : List (List Int)} {w : World} (h : PSt n p w0 used path out w) (o : Obj) : PSt n p w0 used path out (w.alloc o) := by
  obtain ⟨v, o1, o2⟩ := h.ho
  obtain ⟨C, r1, r2, r3⟩ := h.hrl
  obtain ⟨D, u1, u2, u3⟩ := h.hru
  exact ⟨blk_alloc h.hn o, blk_alloc h.hL o, ⟨C, blk_alloc r1 o, r2, r3⟩, blk_alloc h.hU o, ⟨D, blk_alloc u1 o, u2, u3⟩, blk_alloc h.hG o, ⟨v, blk_alloc o1 o, Kd.S_alloc o2 o⟩, below_alloc h.hB o, by have := h.hT; simp; omega⟩

/-- One number more in the row behind the list's end, and the header. -/
theorem PSt.push {n : Nat} {p : PL} (hp : p.ok) {w0 : World} {used : Nat → Bool} {path : List Nat} {out : List (List Int)} {w : World} (h : PSt n p w0 used path out w) (hBT : w0.heap.size ≤ p.bL) (hBl : w0.heap.size ≤ p.rl) (k : Nat) (hk : path.length < n) : PSt n p w0 used (path ++ [k]) out ((w.setCell ⟨p.rl, path.length, none⟩ (.int .i64 (k : Int))).setCell ⟨p.bL, 0, none⟩ (.slice (some ⟨p.rl, 0, none⟩) (path.length + 1) n)) := by
  obtain ⟨v, o1, o2⟩ := h.ho
  obtain ⟨C, r1, r2, r3⟩ := h.hrl
  obtain ⟨D, u1, u2, u3⟩ := h.hru
  refine ⟨blk_far (blk_far h.hn hp.nl _) hp.nL _, ?_, ⟨_, blk_far (put_row r1 _ _) (Ne.symm hp.Ll) _, by simpa using r2, fun j hj => ?_⟩, blk_far (blk_far h.hU hp.Ul _) (Ne.symm hp.LU) _, ⟨D, blk_far (blk_far u1 (Ne.symm hp.lu) _) (Ne.symm hp.Lu) _, u2, u3⟩, blk_far (blk_far h.hG hp.Gl _) (Ne.symm hp.LG) _, ⟨v, blk_far (blk_far o1 hp.ol _) (Ne.symm hp.Lo) _, S_base_far (S_base_far o2 hp.tl _) hp.tL _⟩, below_set (below_set h.hB hBl) hBT, by simpa [World.setCell] using h.hT⟩
  · have := blk_put (blk_far h.hL hp.Ll (.int .i64 (k : Int)) (p := ⟨p.rl, path.length, none⟩)) 0 (.slice (some ⟨p.rl, 0, none⟩) (path.length + 1) n) rfl
    simpa using this
  · rw [Array.getElem?_setIfInBounds]
    simp only [List.length_append, List.length_singleton] at hj
    by_cases e : path.length = j
    · subst e
      rw [if_pos rfl, if_pos (by omega)]
      simp
    · rw [if_neg e, r3 j (by omega)]
      congr 3
      rw [List.getD_eq_getElem?_getD, List.getD_eq_getElem?_getD, List.getElem?_append_left (by omega)]

/-- The rows that are told have grown. -/
theorem PSt.told {n : Nat} {p : PL} (hp : p.ok) {w0 : World} {used : Nat → Bool} {path : List Nat} {out out' : List (List Int)} {w w2 : World} (h : PSt n p w0 used path out w) (hBT : w0.heap.size ≤ p.bo) (hb : Below p.T w w2) {v2 : Value} (hS : Kd.S rowsK 43 w2 p.T (fun _ => True) v2 out') : PSt n p w0 used path out' (w2.setCell ⟨p.bo, 0, none⟩ v2) := by
  obtain ⟨v, o1, o2⟩ := h.ho
  obtain ⟨C, r1, r2, r3⟩ := h.hrl
  obtain ⟨D, u1, u2, u3⟩ := h.hru
  have mv : ∀ {g : Nat} {o : Obj}, g < p.T → w.heap[g]? = some o → w2.heap[g]? = some o := fun hg ho => (hb.block _ hg).trans ho
  refine ⟨blk_far (mv hp.tn h.hn) hp.no _, blk_far (mv hp.tL h.hL) hp.Lo _, ⟨C, blk_far (mv hp.tl r1) (Ne.symm hp.ol) _, r2, r3⟩, blk_far (mv hp.tU h.hU) (Ne.symm hp.oU) _, ⟨D, blk_far (mv hp.tu u1) (Ne.symm hp.ou) _, u2, u3⟩, blk_far (mv hp.tG h.hG) (Ne.symm hp.oG) _, ⟨v2, blk_put (mv hp.tO o1) 0 _ rfl, S_base_far hS hp.tO _⟩, below_set (h.hB.trans (hb.mono (by have := hp.tO; omega))) hBT, ?_⟩
  have h1 := h.hT
  have h2 := hb.size
  simp [World.setCell]
  omega

theorem empty_row (w : World) : Kd.R (Kd.int .i64) 3 (w.alloc (.cells #[] 3)).drew w.heap.size (fun _ => True) (.slice (some ⟨w.heap.size, 0, none⟩) 0 0) [] := by
  refine Kd.R_drew ⟨fun _ _ => trivial, [], ?_, Reps.none _ _⟩
  have h2 := World.ownsRow_lit (base := w.heap.size) (e := 3) (size := 1) w #[] 0 (Nat.le_refl _) (by simp [maxLen]) (by simp)
  exact h2

/-- All lists that go on from a path. -/
def ext (n : Nat) : Nat → List Nat → List (List Int)
  | 0, path => [path.map fun (j : Nat) => (j : Int)]
  | d + 1, path => (List.range n).flatMap fun i => if path.contains i then [] else ext n d (path ++ [i])

set_option maxHeartbeats 4000000 in
set_option maxRecDepth 100000 in
theorem grow_end (n : Nat) (hn4 : n ≤ 4) (p : PL) (hp : p.ok) (w0 : World) (hB1 : w0.heap.size ≤ p.bn) (hB2 : w0.heap.size ≤ p.bL) (hB3 : w0.heap.size ≤ p.bo) (hB4 : w0.heap.size ≤ p.bU) (hB5 : w0.heap.size ≤ p.bG) (hB6 : w0.heap.size ≤ p.rl) (hB7 : w0.heap.size ≤ p.ru) (used : Nat → Bool) (path : List Nat) (out : List (List Int)) (hol : out.length ≤ 1000) (hl : path.length = n) (w : World) (h : PSt n p w0 used path out w) :
    Calls Try.prog 133 #[.pointer (some ⟨p.bL, 0, none⟩), .pointer (some ⟨p.bn, 0, none⟩), .pointer (some ⟨p.bo, 0, none⟩), .pointer (some ⟨p.bU, 0, none⟩), .pointer (some ⟨p.bG, 0, none⟩)] w fun e w' => e = .returned (.tuple #[]) ∧ PSt n p w0 used path (out ++ [path.map fun (j : Nat) => (j : Int)]) w' := by
  have HP := Go.Lib.hid h
  obtain ⟨v, o1, o2⟩ := h.ho
  obtain ⟨C, r1, r2, r3⟩ := h.hrl
  have cL : w.cell? ⟨p.bL, 0, none⟩ = some (.slice (some ⟨p.rl, 0, none⟩) n n) := by rw [blk_cell h.hL 0, hl]; rfl
  have cn : w.cell? ⟨p.bn, 0, none⟩ = some (.int .i64 (n : Int)) := blk_cell h.hn 0
  have co : w.cell? ⟨p.bo, 0, none⟩ = some v := blk_cell o1 0
  have fo : w.frozen? ⟨p.bo, 0, none⟩ = false := blk_frozen o1 0
  obtain ⟨x, hx⟩ : ∃ x : List Int, x = path.map fun (j : Nat) => (j : Int) := ⟨_, rfl⟩
  have hxl : x.length = n := by rw [hx]; simpa using hl
  have hrd0 : (Kd.int .i64).C w (some ⟨p.rl, 0, none⟩) n x := by
    refine ⟨hxl, by omega, fun _ => ⟨_, rfl, fun j q hj => ⟨[.int .i64 q], rfl, rfl, fun i u hu => ?_⟩⟩⟩
    have hjl : j < path.length := by
      have : j < x.length := by
        rcases Nat.lt_or_ge j x.length with h | h
        · exact h
        · rw [List.getElem?_eq_none h] at hj; cases hj
      omega
    match i, hu with
    | 0, hu =>
      simp at hu
      subst hu
      rw [Addr.add_lit, blk_cell r1]
      have := r3 j hjl
      rw [hx, List.getElem?_map, List.getElem?_eq_getElem hjl] at hj
      simp at hj
      subst hj
      rw [List.getD_eq_getElem?_getD, List.getElem?_eq_getElem hjl] at this
      have e1 : j * (Kd.int .i64).sz + 0 = j := by show j * 1 + 0 = j; omega
      rw [Nat.zero_add, e1]
      simpa using this
    | i + 1, hu => simp at hu
  have hrd := Kd.C_drew (Kd.C_alloc hrd0 (.cells #[] 3))
  have HRD := Go.Lib.hid hrd
  have HE := Go.Lib.hid (empty_row w)
  have HO := Go.Lib.hid o2
  have HX := Go.Lib.hid hx
  have HT := Go.Lib.hid h.hT
  have hvl := Go.Lib.hid (Kd.S_lt o2)
  have hbT : p.bo < p.T := hp.tO
  have hLT : p.bL < p.T := hp.tL
  have neo : p.bo ≠ w.heap.size := by have := h.hT; omega
  have neL : p.bL ≠ w.heap.size := by have := h.hT; omega
  have cLa : (w.alloc (.cells #[] 3)).cell? ⟨p.bL, 0, none⟩ = some (.slice (some ⟨p.rl, 0, none⟩) n n) := ((below_alloc (Below.refl _ _) (.cells #[] 3)).cell (p := ⟨p.bL, 0, none⟩) (by show p.bL < w.heap.size; have := h.hT; omega)).trans cL
  have coa : (w.alloc (.cells #[] 3)).cell? ⟨p.bo, 0, none⟩ = some v := ((below_alloc (Below.refl _ _) (.cells #[] 3)).cell (p := ⟨p.bo, 0, none⟩) (by show p.bo < w.heap.size; have := h.hT; omega)).trans co
  rw [← hx]
  clear h o1 o2 hrd hrd0 r1 r2 r3 hx
  go_enter Try.func133, Try.ntmps133
  go_wp2_with (fail)
  go_region_law
    (first
      | (refine Kd.R_append_rows_step (Kd.int .i64) (w0 := w) w.heap.size (by rfl) (.tmp 11) (.tmp 12) 43 3 (.int .i64 0) 8 rfl Try.underlying43 info3 rfl (by decide) (by decide) (.slice (some ⟨w.heap.size, 0, none⟩) 0 0) [] x (some ⟨p.rl, 0, none⟩) n n (fun _ => True) (fun _ => False) rfl rfl HE.out HRD.out (fun x cs h => h) (fun _ h => h.elim) (fun _ _ => trivial) (below_drew1 (below_alloc (Below.refl _ _) _)) (by simp) (by simp; omega) ?_
         intro v1 w1 hr1 hb1 hg1 ha1
         obtain ⟨A1, c1, rfl⟩ := Kd.R_slice hr1
         rw [List.nil_append, hxl] at hr1
         have co1 : w1.cell? ⟨p.bo, 0, none⟩ = some v := (hb1.cell (p := ⟨p.bo, 0, none⟩) (Nat.lt_of_lt_of_le hbT HT.out)).trans co
         have neo1 : p.bo ≠ w1.heap.size := by have := hb1.size; have := HT.out; omega
         have coa1 : (w1.alloc (.cells #[.slice A1 n c1] 43)).cell? ⟨p.bo, 0, none⟩ = some v := ((below_alloc (Below.refl _ _) (.cells #[.slice A1 n c1] 43)).cell (p := ⟨p.bo, 0, none⟩) (by show p.bo < w1.heap.size; have := hb1.size; have := HT.out; omega)).trans co1
         have HR1 := Go.Lib.hid hr1
         clear hr1 hg1 ha1)
      | (refine Kd.S_append_step rowsK (w0 := w) p.T (by rfl) (.tmp 10) (.tmp 14) 50 43 (.slice none 0 0) 24 rfl Try.underlying50 info43 rfl (by decide) (by decide) v out x [.slice A1 n c1] (fun _ => True) (fun k => w.heap.size ≤ k) rfl rfl ⟨_, rfl, Kd.R_lower (Kd.R_mono (Kd.R_bound HR1.out) (fun k hk => hk.2.1)) HT.out⟩ (fun k hk => ⟨trivial, fun e => by have := hvl.out k e.symm; omega⟩) (fun _ _ => trivial) (Kd.S_mono (Kd.S_below (Kd.S_bound HO.out) hb1) (fun k hk => ⟨trivial, by have := hk.2.2.1; omega⟩)) (hb1.mono HT.out) (Nat.le_trans HT.out hb1.size) (by omega) ?_
         intro v2 w2 hr2 hb2 hg2 ha2
         obtain ⟨A2, c2, rfl⟩ := Kd.S_slice hr2
         rw [List.length_append, List.length_singleton] at hr2
         have fo2 : w2.frozen? ⟨p.bo, 0, none⟩ = false := (hb2.frozen (p := ⟨p.bo, 0, none⟩) hbT).trans fo
         have cL2 : w2.cell? ⟨p.bL, 0, none⟩ = some (.slice (some ⟨p.rl, 0, none⟩) n n) := (hb2.cell (p := ⟨p.bL, 0, none⟩) hLT).trans cL
         have co2 : w2.cell? ⟨p.bo, 0, none⟩ = some v := (hb2.cell (p := ⟨p.bo, 0, none⟩) hbT).trans co
         have HR2 := Go.Lib.hid hr2
         clear hr2 hg2 ha2)
      | (go_simp; done))
  all_goals go_wp2_with (fail)
  all_goals exact bodyPost_ret (v := .tuple #[]) (by simp [results, Try.results133, go_sem]) rfl ⟨rfl, HP.out.told hp hB3 hb2 HR2.out⟩

theorem ext_len (n : Nat) : ∀ d path, (ext n d path).length ≤ n ^ d
  | 0, path => by simp [ext]
  | d + 1, path => by
    have : ∀ k, ((List.range k).flatMap fun i => if path.contains i then [] else ext n d (path ++ [i])).length ≤ k * n ^ d := by
      intro k
      induction k with
      | zero => simp
      | succ k ih =>
        rw [List.range_succ, List.flatMap_append, List.length_append, Nat.succ_mul]
        refine Nat.add_le_add ih ?_
        simp only [List.flatMap_cons, List.flatMap_nil, List.append_nil]
        split
        · simp
        · exact ext_len n d _
    have h := this n
    rw [Nat.pow_succ, Nat.mul_comm]
    exact h

/-- What a loop of grow has told so far. -/
def extTo (n d : Nat) (path : List Nat) (k : Nat) : List (List Int) := (List.range k).flatMap fun i => if path.contains i then [] else ext n d (path ++ [i])
theorem extTo_len (n d : Nat) (path : List Nat) (k : Nat) : (extTo n d path k).length ≤ k * n ^ d := by
  induction k with
  | zero => simp [extTo]
  | succ k ih =>
    unfold extTo at *
    rw [List.range_succ, List.flatMap_append, List.length_append, Nat.succ_mul]
    refine Nat.add_le_add ih ?_
    simp only [List.flatMap_cons, List.flatMap_nil, List.append_nil]
    split
    · simp
    · exact ext_len n d _
theorem extTo_skip {n d : Nat} {path : List Nat} {k : Nat} (h : path.contains k = true) : extTo n d path (k + 1) = extTo n d path k := by
  unfold extTo
  rw [List.range_succ, List.flatMap_append]
  simp only [List.flatMap_cons, List.flatMap_nil, List.append_nil]
  rw [if_pos h, List.append_nil]
theorem extTo_go {n d : Nat} {path : List Nat} {k : Nat} (h : path.contains k = false) : extTo n d path (k + 1) = extTo n d path k ++ ext n d (path ++ [k]) := by
  unfold extTo
  rw [List.range_succ, List.flatMap_append]
  simp only [List.flatMap_cons, List.flatMap_nil, List.append_nil]
  rw [if_neg (by rw [h]; decide)]

theorem PSt.congr {n : Nat} {p : PL} {w0 : World} {used used' : Nat → Bool} {path : List Nat} {out : List (List Int)} {w : World} (h : PSt n p w0 used path out w) (e : ∀ j, j < n → used j = used' j) : PSt n p w0 used' path out w := by
  obtain ⟨D, u1, u2, u3⟩ := h.hru
  exact ⟨h.hn, h.hL, h.hrl, h.hU, ⟨D, u1, u2, fun j hj => by rw [u3 j hj, e j hj]⟩, h.hG, h.ho, h.hB, h.hT⟩

set_option maxHeartbeats 4000000 in
set_option maxRecDepth 100000 in
theorem grow (n : Nat) (hn4 : n ≤ 4) (p : PL) (hp : p.ok) (w0 : World) (hB1 : w0.heap.size ≤ p.bn) (hB2 : w0.heap.size ≤ p.bL) (hB3 : w0.heap.size ≤ p.bo) (hB4 : w0.heap.size ≤ p.bU) (hB5 : w0.heap.size ≤ p.bG) (hB6 : w0.heap.size ≤ p.rl) (hB7 : w0.heap.size ≤ p.ru) : ∀ (d : Nat) (path : List Nat) (out : List (List Int)) (hl : path.length + d = n) (hol : out.length + n ^ d ≤ 1000) (w : World) (h : PSt n p w0 (fun j => path.contains j) path out w),
    Calls Try.prog 133 #[.pointer (some ⟨p.bL, 0, none⟩), .pointer (some ⟨p.bn, 0, none⟩), .pointer (some ⟨p.bo, 0, none⟩), .pointer (some ⟨p.bU, 0, none⟩), .pointer (some ⟨p.bG, 0, none⟩)] w fun e w' => e = .returned (.tuple #[]) ∧ PSt n p w0 (fun j => path.contains j) path (out ++ ext n d path) w' := by
  intro d
  induction d with
  | zero =>
    intro path out hl hol w h
    exact grow_end n hn4 p hp w0 hB1 hB2 hB3 hB4 hB5 hB6 hB7 _ path out (by omega) (by omega) w h
  | succ d ih =>
    intro path out hl hol w h
    have hpn : n ^ (d + 1) = n * n ^ d := by rw [Nat.pow_succ, Nat.mul_comm]
    rw [hpn] at hol
    clear hpn
    have HP0 := Go.Lib.hid h
    have HOL := Go.Lib.hid hol
    have HIH := Go.Lib.hid ih
    have cL : w.cell? ⟨p.bL, 0, none⟩ = some (.slice (some ⟨p.rl, 0, none⟩) path.length n) := blk_cell h.hL 0
    have cn : w.cell? ⟨p.bn, 0, none⟩ = some (.int .i64 (n : Int)) := blk_cell h.hn 0
    obtain ⟨m, hm⟩ : ∃ m, path.length = m := ⟨_, rfl⟩
    rw [hm] at cL hl
    have hmn : m < n := by omega
    have HM := Go.Lib.hid hm
    clear h ih hol hm
    have hmnb : ((m : Int) == (n : Int)) = false := by rw [beq_eq_false_iff_ne]; omega
    go_enter Try.func133, Try.ntmps133
    go_wp2_with (fail)
    go_loopw [5, 17] (fun v5 i wr => ∃ k : Nat, k ≤ n ∧ i = .int .i64 (k : Int) ∧ Aside0 (PSt n p w0 (fun j => path.contains j) path (out ++ extTo n d path k) wr)) (fun _ i _ => n - (intOf i).toNat)
    case atStart => exact ⟨0, by omega, rfl, ⟨by simpa [extTo] using HP0.out⟩⟩
    case round =>
      obtain ⟨k, hk, rfl, hS⟩ := hrel
      obtain ⟨D, u1, u2, u3⟩ := hS.out.hru
      have cU : wr.cell? ⟨p.bU, 0, none⟩ = some (.slice (some ⟨p.ru, 0, none⟩) n n) := blk_cell hS.out.hU 0
      by_cases hlt : k < n
      · have cu : wr.cell? ⟨p.ru, k, none⟩ = some (.bool (path.contains k)) := by rw [blk_cell u1]; exact u3 k hlt
        have fu : wr.frozen? ⟨p.ru, k, none⟩ = false := blk_frozen u1 k
        clear u1 u2 u3 cL cn HP0
        cases hc : path.contains k
        · rw [hc] at cu
          have HC := Go.Lib.hid hc
          have h1 := Aside0.mk (hS.out.mark hp hB7 k true)
          have hlen : (extTo n d path k).length ≤ k * n ^ d := extTo_len n d path k
          have hmul : (k + 1) * n ^ d ≤ n * n ^ d := Nat.mul_le_mul_right _ hlt
          have HLEN : Hid ((out ++ extTo n d path k).length + n ^ d ≤ 1000) := Go.Lib.hid (by
            have := HOL.out
            rw [Nat.succ_mul] at hmul
            rw [List.length_append]
            omega)
          clear hlen hmul
          obtain ⟨w1, hw1⟩ : ∃ w1, w1 = wr.setCell ⟨p.ru, k, none⟩ (.bool true) := ⟨_, rfl⟩
          rw [← hw1] at h1
          have h2 := Aside0.mk (h1.out.alloc (.cells #[.int .i64 (k : Int)] 3))
          have h3 := Aside0.mk (h2.out.push hp hB2 hB6 k (by rw [HM.out]; omega))
          rw [HM.out] at h3
          obtain ⟨C, r1, r2, r3⟩ := h1.out.hrl
          obtain ⟨C2, q1, q2, q3⟩ := h2.out.hrl
          rw [HM.out] at r3
          have e1 : (wr.setCell ⟨p.ru, k, none⟩ (.bool true)).cell? ⟨p.bL, 0, none⟩ = some (.slice (some ⟨p.rl, 0, none⟩) m n) := by rw [← hw1, blk_cell h1.out.hL 0, HM.out]; rfl
          have hcell : ∀ j u, (path.map fun (i : Nat) => Value.int .i64 (i : Int))[j]? = some u → (w1.alloc (.cells #[.int .i64 (k : Int)] 3)).cell? ⟨p.rl, 0 + j, none⟩ = some u := by
            intro j u hj
            have hjl : j < path.length := by
              rcases Nat.lt_or_ge j path.length with h | h
              · exact h
              · rw [List.getElem?_eq_none (by simpa using h)] at hj; cases hj
            rw [Nat.zero_add, blk_cell q1, q3 j hjl, ← hj, List.getElem?_map, List.getD_eq_getElem?_getD, List.getElem?_eq_getElem hjl]
            rfl
          have hsp : ∀ j, j < [Value.int .i64 (k : Int)].length → ((w1.alloc (.cells #[.int .i64 (k : Int)] 3)).cell? ⟨p.rl, 0 + m * 1 + j, none⟩).isSome = true ∧ (w1.alloc (.cells #[.int .i64 (k : Int)] 3)).frozen? ⟨p.rl, 0 + m * 1 + j, none⟩ = false := by
            intro j hj
            obtain rfl : j = 0 := by simpa using hj
            rw [blk_cell q1, blk_frozen q1]
            exact ⟨by rw [Array.getElem?_eq_getElem (by omega)]; rfl, rfl⟩
          have hfL : ((w1.alloc (.cells #[.int .i64 (k : Int)] 3)).setCell ⟨p.rl, m, none⟩ (.int .i64 (k : Int))).frozen? ⟨p.bL, 0, none⟩ = false := blk_frozen (blk_far h2.out.hL hp.Ll _) 0
          have hgL : ((w1.alloc (.cells #[.int .i64 (k : Int)] 3)).setCell ⟨p.rl, m, none⟩ (.int .i64 (k : Int))).cell? ⟨p.bL, 0, none⟩ = some (.slice (some ⟨p.rl, 0, none⟩) m n) := by rw [blk_cell (blk_far h2.out.hL hp.Ll _) 0, HM.out]; rfl
          have hG3 : (((w1.alloc (.cells #[.int .i64 (k : Int)] 3)).setCell ⟨p.rl, m, none⟩ (.int .i64 (k : Int))).setCell ⟨p.bL, 0, none⟩ (.slice (some ⟨p.rl, 0, none⟩) (m + 1) n)).cell? ⟨p.bG, 0, none⟩ = some (.func (.func 133) #[] #[.pointer (some ⟨p.bL, 0, none⟩), .pointer (some ⟨p.bn, 0, none⟩), .pointer (some ⟨p.bo, 0, none⟩), .pointer (some ⟨p.bU, 0, none⟩), .pointer (some ⟨p.bG, 0, none⟩)]) := blk_cell h3.out.hG 0
          have hnew : ∀ j u, [Value.int .i64 (k : Int)][j]? = some u → (w1.alloc (.cells #[.int .i64 (k : Int)] 3)).cell? ((⟨w1.heap.size, 0, none⟩ : Addr).add j) = some u := by
            intro j u hj
            match j, hj with
            | 0, hj =>
              rw [Addr.add_lit, blk_cell (blk_new w1 _)]
              simpa using hj
            | j + 1, hj => simp at hj
          subst hw1
          rw [show (wr.setCell ⟨p.ru, k, none⟩ (.bool true)).heap.size = wr.heap.size by simp [World.setCell]] at hnew
          obtain ⟨i0, hi, hz0, hz1, hz2⟩ : ∃ i, Try.prog.info? 3 = some i ∧ i.zero = some (.int .i64 0) ∧ i.size = 1 ∧ i.bytes = 8 := by
            have hI := info3
            cases hq : Try.prog.info? 3 with
            | none => rw [hq] at hI; cases hI
            | some i =>
              rw [hq] at hI
              simp at hI
              exact ⟨i, rfl, hI.1, hI.2.1, hI.2.2⟩
          have HN2 := Aside0.mk hnew
          have HC2 := Aside0.mk hcell
          have HS2 := Aside0.mk hsp
          clear hc hS r1 r2 r3 q1 q2 q3 h1 h2 hcell hsp hnew C C2
          go_wp2_with (at_builtin; refine wpList_append_arg _ (by rfl) (.tmp 28) (.tmp 30) 43 (by rfl) 3 i0 (.int .i64 0) 1 8 Try.underlying43 hi hz0 hz1 hz2 (by rfl) (by decide) p.rl 0 m n (path.map fun (i : Nat) => Value.int .i64 (i : Int)) ?hs ?hlo ?holds ⟨wr.heap.size, 0, none⟩ 1 1 [.int .i64 (k : Int)] ?hx ?hn ?c1 ?h1c ?spare ?b1 ?b2 ?room ?grow)
          case hs => rfl
          case hlo => rw [List.length_map, HM.out, Nat.mul_one]
          case holds => exact HC2.out
          case hx => rfl
          case hn => rfl
          case c1 => exact HN2.out
          case h1c => simp [Value.oneCell']
          case spare => exact fun _ => HS2.out
          case b1 => simp [maxLen]; omega
          case b2 => omega
          case grow => exact fun hg => absurd hg (by omega)
          have h3' := Aside0.mk (h3.out.congr (used' := fun j => (path ++ [k]).contains j) (fun j _ => by
            by_cases e : j = k
            · subst e; simp
            · simp [e]))
          clear h3
          intro _
          simp only [World.setCells]
          go_wp2_with (fail)
          refine (HIH.out (path ++ [k]) (out ++ extTo n d path k) (by rw [List.length_append, List.length_singleton, HM.out]; omega) HLEN.out _ h3'.out).mono ?_
          rintro e w4 ⟨rfl, h4⟩
          have h5 := Aside0.mk (h4.head hp hB2 (path' := path) (fun j hj => ⟨by rw [List.length_append]; omega, by rw [List.getD_eq_getElem?_getD, List.getD_eq_getElem?_getD, List.getElem?_append_left hj]⟩))
          rw [HM.out] at h5
          have h6 := Aside0.mk ((h5.out.mark hp hB7 k false).congr (used' := fun j => path.contains j) (fun j _ => by
            by_cases e : j = k
            · subst e; simpa using HC.out.symm
            · simp [e]))
          have cL4 : w4.cell? ⟨p.bL, 0, none⟩ = some (.slice (some ⟨p.rl, 0, none⟩) (m + 1) n) := by rw [blk_cell h4.hL 0, List.length_append, HM.out]; rfl
          have fL4 : w4.frozen? ⟨p.bL, 0, none⟩ = false := blk_frozen h4.hL 0
          have cU5 : (w4.setCell ⟨p.bL, 0, none⟩ (.slice (some ⟨p.rl, 0, none⟩) m n)).cell? ⟨p.bU, 0, none⟩ = some (.slice (some ⟨p.ru, 0, none⟩) n n) := blk_cell h5.out.hU 0
          obtain ⟨D5, v1, v2, v3⟩ := h5.out.hru
          have cu5 : (w4.setCell ⟨p.bL, 0, none⟩ (.slice (some ⟨p.rl, 0, none⟩) m n)).cell? ⟨p.ru, k, none⟩ = some (.bool ((path ++ [k]).contains k)) := by rw [blk_cell v1]; exact v3 k hlt
          have fu5 : (w4.setCell ⟨p.bL, 0, none⟩ (.slice (some ⟨p.rl, 0, none⟩) m n)).frozen? ⟨p.ru, k, none⟩ = false := blk_frozen v1 k
          clear v1 v2 v3 h4 h5 hgL hfL hG3 e1 cU cu fu
          go_wp2_with (fail)
          go_roundw
          case rel => exact ⟨k + 1, by omega, by go_num, ⟨by rw [extTo_go HC.out, ← List.append_assoc]; exact h6.out⟩⟩
          case measure => simp [intOf]; omega
        · rw [hc] at cu
          have HC := Go.Lib.hid hc
          clear hc
          go_wp2_with (fail)
          go_roundw
          case rel => exact ⟨k + 1, by omega, by go_num, ⟨by rw [extTo_skip HC.out]; exact hS.out⟩⟩
          case measure => simp [intOf]; omega
      · obtain rfl : k = n := by omega
        clear u1 u2 u3 cL cn HP0
        go_wp2_with (fail)
        exact bodyPost_end (v := .tuple #[]) (by simp [results, Try.results133, go_sem]) rfl ⟨rfl, hS.out⟩

def impl_permutations.f (a0 : Int) : Option (List (List Int)) := if 0 ≤ a0 ∧ a0 ≤ 4 then some (ext a0.toNat a0.toNat []) else none

set_option maxHeartbeats 4000000 in
set_option maxRecDepth 100000 in
theorem perms_nat (n : Nat) (hn4 : n ≤ 4) (w : World) : Calls Try.prog 108 #[.int .i64 (n : Int)] w fun e w' => ∃ v0_, e = .returned v0_ ∧ Kd.S (Kd.slice 3 (Kd.int .i64)) 43 w' w.heap.size (fun _ => True) v0_ (ext n n []) ∧ Below w.heap.size w w' := by
  have mk : ∀ (t e : Nat) (i : TypeInfo) (z : Value) (l : Nat) (W : World), Try.prog.underlying t = some (.slice e) → Try.prog.info? e = some i → i.zero = some z → i.size = 1 → i.bytes ≤ 8 → l ≤ n → Sem.run Try.prog (Instr.makeSlice t (.int .i64 (l : Int)) (.int .i64 (n : Int))) W = .ok (.slice (some ⟨W.heap.size, 0, none⟩) l n) (W.alloc (.cells (madeCells z.cells n) e)) := by
    intro t e i z l W h1 h2 h3 h4 h5 h6
    have hb : i.bytes * n ≤ 8 * 4 := Nat.mul_le_mul h5 hn4
    have hb2 : (i.bytes : Int) * (n : Int) ≤ 281474976710656 := by
      rw [← Int.natCast_mul]
      omega
    have := run_make (P := Try.prog) W t e i z h1 h2 h3 .i64 .i64 (l : Int) (n : Int) (by omega) (by omega) hb2 (by omega)
    rw [h4] at this
    simpa using this
  have m1 : ∀ W, Sem.run Try.prog (Instr.makeSlice 43 (.int .i64 0) (.int .i64 (n : Int))) W = .ok (.slice (some ⟨W.heap.size, 0, none⟩) 0 n) (W.alloc (.cells (madeCells #[.int .i64 0] n) 3)) := by
    intro W
    have hI := info3
    cases hq : Try.prog.info? 3 with
    | none => rw [hq] at hI; cases hI
    | some i =>
      rw [hq] at hI
      simp at hI
      exact mk _ _ i _ 0 W Try.underlying43 hq hI.1 hI.2.1 (by omega) (by omega)
  have m2 : ∀ W, Sem.run Try.prog (Instr.makeSlice 106 (.int .i64 (n : Int)) (.int .i64 (n : Int))) W = .ok (.slice (some ⟨W.heap.size, 0, none⟩) n n) (W.alloc (.cells (madeCells #[.bool false] n) 4)) := by
    intro W
    have hI : (Try.prog.info? 4).map (fun i => (i.zero, i.size, i.bytes)) = some (some (.bool false), 1, 1) := by kernel_rfl
    cases hq : Try.prog.info? 4 with
    | none => rw [hq] at hI; cases hI
    | some i =>
      rw [hq] at hI
      simp at hI
      exact mk _ _ i _ n W Try.underlying106 hq hI.1 hI.2.1 (by omega) (by omega)
  clear mk
  go_enter Try.func108, Try.ntmps108
  have hsf := fun (a : Addr) (c : Array Value) (w : World) => run_store Try.prog w a (.func (.func 133) #[] c) .plain rfl
  go_wp2_with (fail)
  refine (grow n hn4 ⟨w.heap.size, w.heap.size + 1 + 1 + 1, w.heap.size + 1, w.heap.size + 1 + 1 + 1 + 1 + 1, w.heap.size + 1 + 1 + 1 + 1 + 1 + 1, w.heap.size + 1 + 1, w.heap.size + 1 + 1 + 1 + 1, w.heap.size + 1 + 1 + 1 + 1 + 1 + 1 + 1⟩ (by constructor <;> (dsimp only; omega)) w (by dsimp only; omega) (by dsimp only; omega) (by dsimp only; omega) (by dsimp only; omega) (by dsimp only; omega) (by dsimp only; omega) (by dsimp only; omega) n [] [] (by simp) ?len _ ?start).mono ?_
  case len =>
    have : n = 0 ∨ n = 1 ∨ n = 2 ∨ n = 3 ∨ n = 4 := by omega
    rcases this with rfl | rfl | rfl | rfl | rfl <;> decide
  case start =>
    refine ⟨?_, ?_, ⟨madeCells #[.int .i64 0] n, ?_, size_madeCells _ _, fun j hj => absurd hj (by simp)⟩, ?_, ⟨madeCells #[.bool false] n, ?_, size_madeCells _ _, fun j hj => ?_⟩, ?_, ⟨.slice none 0 0, ?_, Kd.S_nil _ _ _ _ _⟩, ?_, ?_⟩
    · exact blk_alloc (blk_alloc (blk_alloc (blk_alloc (blk_alloc (blk_alloc (blk_new _ _) _) _) _) _) _) _
    · exact blk_alloc (blk_alloc (blk_alloc (by simpa using blk_new (((w.alloc (.cells #[.int .i64 (n : Int)] 3)).alloc (.cells #[.slice none 0 0] 50)).alloc (.cells (madeCells #[.int .i64 0] n) 3)) (.cells #[.slice (some ⟨w.heap.size + 1 + 1, 0, none⟩) 0 n] 43)) _) _) _
    · exact blk_alloc (blk_alloc (blk_alloc (blk_alloc (by simpa using blk_new ((w.alloc (.cells #[.int .i64 (n : Int)] 3)).alloc (.cells #[.slice none 0 0] 50)) (.cells (madeCells #[.int .i64 0] n) 3)) _) _) _) _
    · exact blk_alloc (by simpa using blk_new (((((w.alloc (.cells #[.int .i64 (n : Int)] 3)).alloc (.cells #[.slice none 0 0] 50)).alloc (.cells (madeCells #[.int .i64 0] n) 3)).alloc (.cells #[.slice (some ⟨w.heap.size + 1 + 1, 0, none⟩) 0 n] 43)).alloc (.cells (madeCells #[.bool false] n) 4)) (.cells #[.slice (some ⟨w.heap.size + 1 + 1 + 1 + 1, 0, none⟩) n n] 106)) _
    · exact blk_alloc (blk_alloc (by simpa using blk_new ((((w.alloc (.cells #[.int .i64 (n : Int)] 3)).alloc (.cells #[.slice none 0 0] 50)).alloc (.cells (madeCells #[.int .i64 0] n) 3)).alloc (.cells #[.slice (some ⟨w.heap.size + 1 + 1, 0, none⟩) 0 n] 43)) (.cells (madeCells #[.bool false] n) 4)) _) _
    · unfold madeCells
      rw [Array.getElem?_map, Array.getElem?_range, if_pos hj]
      simp [Nat.mod_one]
    · have := blk_new ((((((w.alloc (.cells #[.int .i64 (n : Int)] 3)).alloc (.cells #[.slice none 0 0] 50)).alloc (.cells (madeCells #[.int .i64 0] n) 3)).alloc (.cells #[.slice (some ⟨w.heap.size + 1 + 1, 0, none⟩) 0 n] 43)).alloc (.cells (madeCells #[.bool false] n) 4)).alloc (.cells #[.slice (some ⟨w.heap.size + 1 + 1 + 1 + 1, 0, none⟩) n n] 106)) (.cells #[growV ⟨w.heap.size, w.heap.size + 1 + 1 + 1, w.heap.size + 1, w.heap.size + 1 + 1 + 1 + 1 + 1, w.heap.size + 1 + 1 + 1 + 1 + 1 + 1, w.heap.size + 1 + 1, w.heap.size + 1 + 1 + 1 + 1, w.heap.size + 1 + 1 + 1 + 1 + 1 + 1 + 1⟩] 1)
      unfold growV at this ⊢
      simpa using this
    · exact blk_alloc (blk_alloc (blk_alloc (blk_alloc (blk_alloc (by simpa using blk_new (w.alloc (.cells #[.int .i64 (n : Int)] 3)) (.cells #[.slice none 0 0] 50)) _) _) _) _) _
    · exact below_alloc (below_alloc (below_alloc (below_alloc (below_alloc (below_alloc (below_alloc (Below.refl _ _) _) _) _) _) _) _) _
    · simp
  rintro e w3 ⟨rfl, h3⟩
  obtain ⟨v, o1, o2⟩ := h3.ho
  have co : w3.cell? ⟨w.heap.size + 1, 0, none⟩ = some v := blk_cell o1 0
  have HB := Go.Lib.hid h3.hB
  have HS := Go.Lib.hid o2
  clear h3 o1 o2 m1 m2
  go_wp2_with (fail)
  go_ret
  exact ⟨_, rfl, Kd.S_lower HS.out (by omega), HB.out⟩

theorem impl_permutations.calls (a0 : Int) (r : List (List Int)) (w : World) (h : impl_permutations.f a0 = some r) : Calls Try.prog 108 #[.int .i64 a0] w fun e w' => ∃ v0_, e = .returned v0_ ∧ Kd.S (Kd.slice 3 (Kd.int .i64)) 43 w' w.heap.size (fun _ => True) v0_ r ∧ Below w.heap.size w w' := by
  unfold impl_permutations.f at h
  split at h
  · rename_i c
    obtain ⟨n, rfl⟩ := Int.eq_ofNat_of_zero_le c.1
    obtain rfl := Option.some.inj h
    exact perms_nat n (by omega) w
  · cases h

end Go.Proofs.Ytijpcemcijaeeaa.P
