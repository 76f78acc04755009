/- The translation's head line, letter by letter, and what follows from it for every row of this seat; a row's closed facts, put together. No conditions. -/
import Derived.Test.YtijpcemcijaeeaaRows
import Derived.KernelRfl
namespace Go.Proofs.Ytijpcemcijaeeaa.Facts
set_option maxRecDepth 100000 in
def letters : List Nat := [104, 97, 114, 110, 101, 115, 115, 32, 97, 53, 52, 98, 99, 54, 50, 56, 97, 101, 100, 102, 55, 56, 97, 48, 102, 52, 49, 54, 53, 100, 53, 100, 55, 50, 100, 56, 57, 54, 55, 52, 98, 53, 56, 97, 53, 97, 55, 101, 99, 97, 102, 54, 101, 100, 102, 53, 100, 49, 102, 50, 56, 98, 49, 51, 51, 98, 50, 99, 48, 50, 100, 56, 32, 99, 117, 116, 32, 97, 116, 32, 108, 111, 111, 112, 46, 101, 120, 97, 109, 112, 108, 101, 47, 103, 48, 51, 52, 48, 51, 47, 108, 97, 119, 115, 46, 70, 110, 69, 120, 97, 99, 116, 86, 97, 114, 105, 97, 98, 108, 101, 84, 97, 98, 108, 101, 32, 108, 111, 111, 112, 46, 101, 120, 97, 109, 112, 108, 101, 47, 103, 48, 51, 52, 48, 51, 47, 108, 97, 119, 115, 46, 70, 110, 69, 120, 97, 99, 116, 67, 111, 117, 110, 116, 79, 110, 101, 115, 32, 108, 111, 111, 112, 46, 101, 120, 97, 109, 112, 108, 101, 47, 103, 48, 51, 52, 48, 51, 47, 108, 97, 119, 115, 46, 70, 110, 69, 120, 97, 99, 116, 80, 97, 114, 115, 101, 84, 97, 98, 108, 101, 32, 108, 111, 111, 112, 46, 101, 120, 97, 109, 112, 108, 101, 47, 103, 48, 51, 52, 48, 51, 47, 108, 97, 119, 115, 46, 70, 110, 69, 120, 97, 99, 116, 68, 101, 112, 101, 110, 100, 115, 79, 110, 32, 108, 111, 111, 112, 46, 101, 120, 97, 109, 112, 108, 101, 47, 103, 48, 51, 52, 48, 51, 47, 108, 97, 119, 115, 46, 70, 110, 69, 120, 97, 99, 116, 74, 111, 105, 110, 84, 97, 98, 108, 101, 115, 32, 108, 111, 111, 112, 46, 101, 120, 97, 109, 112, 108, 101, 47, 103, 48, 51, 52, 48, 51, 47, 108, 97, 119, 115, 46, 70, 110, 69, 120, 97, 99, 116, 83, 104, 105, 102, 116, 84, 97, 98, 108, 101, 32, 108, 111, 111, 112, 46, 101, 120, 97, 109, 112, 108, 101, 47, 103, 48, 51, 52, 48, 51, 47, 108, 97, 119, 115, 46, 70, 110, 69, 120, 97, 99, 116, 67, 117, 98, 101, 86, 97, 108, 117, 101, 32, 108, 111, 111, 112, 46, 101, 120, 97, 109, 112, 108, 101, 47, 103, 48, 51, 52, 48, 51, 47, 108, 97, 119, 115, 46, 70, 110, 69, 120, 97, 99, 116, 82, 101, 115, 116, 114, 105, 99, 116, 84, 97, 98, 108, 101, 32, 108, 111, 111, 112, 46, 101, 120, 97, 109, 112, 108, 101, 47, 103, 48, 51, 52, 48, 51, 47, 108, 97, 119, 115, 46, 70, 110, 69, 120, 97, 99, 116, 82, 101, 100, 117, 99, 101, 84, 97, 98, 108, 101, 32, 108, 111, 111, 112, 46, 101, 120, 97, 109, 112, 108, 101, 47, 103, 48, 51, 52, 48, 51, 47, 108, 97, 119, 115, 46, 70, 110, 69, 120, 97, 99, 116, 86, 97, 114, 105, 97, 98, 108, 101, 115, 79, 102, 32, 108, 111, 111, 112, 46, 101, 120, 97, 109, 112, 108, 101, 47, 103, 48, 51, 52, 48, 51, 47, 108, 97, 119, 115, 46, 70, 110, 69, 120, 97, 99, 116, 80, 101, 114, 109, 117, 116, 101, 84, 97, 98, 108, 101, 32, 108, 111, 111, 112, 46, 101, 120, 97, 109, 112, 108, 101, 47, 103, 48, 51, 52, 48, 51, 47, 108, 97, 119, 115, 46, 70, 110, 69, 120, 97, 99, 116, 80, 101, 114, 109, 117, 116, 97, 116, 105, 111, 110, 115, 79, 102, 32, 108, 111, 111, 112, 46, 101, 120, 97, 109, 112, 108, 101, 47, 103, 48, 51, 52, 48, 51, 47, 108, 97, 119, 115, 46, 70, 110, 69, 120, 97, 99, 116, 83, 121, 109, 109, 101, 116, 114, 105, 101, 115, 79, 102, 32, 108, 111, 111, 112, 46, 101, 120, 97, 109, 112, 108, 101, 47, 103, 48, 51, 52, 48, 51, 47, 108, 97, 119, 115, 46, 70, 110, 69, 120, 97, 99, 116, 67, 111, 117, 110, 116, 84, 97, 98, 108, 101, 67, 108, 97, 115, 115, 101, 115, 32, 108, 111, 111, 112, 46, 101, 120, 97, 109, 112, 108, 101, 47, 103, 48, 51, 52, 48, 51, 47, 108, 97, 119, 115, 46, 70, 110, 69, 120, 97, 99, 116, 67, 108, 97, 115, 115, 83, 105, 122, 101, 32, 108, 111, 111, 112, 46, 101, 120, 97, 109, 112, 108, 101, 47, 103, 48, 51, 52, 48, 51, 47, 108, 97, 119, 115, 46, 70, 110, 69, 120, 97, 99, 116, 67, 97, 110, 111, 110, 105, 99, 97, 108, 84, 97, 98, 108, 101, 32, 108, 111, 111, 112, 46, 101, 120, 97, 109, 112, 108, 101, 47, 103, 48, 51, 52, 48, 51, 47, 108, 97, 119, 115, 46, 70, 110, 69, 120, 97, 99, 116, 65, 114, 101, 65, 108, 105, 107, 101, 32, 108, 111, 111, 112, 46, 101, 120, 97, 109, 112, 108, 101, 47, 103, 48, 51, 52, 48, 51, 47, 108, 97, 119, 115, 46, 70, 110, 82, 101, 115, 116, 114, 105, 99, 116, 105, 111, 110, 115]
theorem order_lit : Try.prog.initOrder = String.ofList (letters.map Char.ofNat) := by kernel_rfl
theorem order_list : Try.prog.initOrder.toList = letters.map Char.ofNat := by rw [order_lit, String.toList_ofList]
def words2 : List Nat → List (List Nat)
  | [] => [[]]
  | c :: r => match Nat.beq c 32 with
    | true => [] :: words2 r
    | false => match words2 r with
      | w :: ws => (c :: w) :: ws
      | [] => [[c]]
set_option maxRecDepth 100000 in
def twords : List (List Nat) := [[104, 97, 114, 110, 101, 115, 115], [97, 53, 52, 98, 99, 54, 50, 56, 97, 101, 100, 102, 55, 56, 97, 48, 102, 52, 49, 54, 53, 100, 53, 100, 55, 50, 100, 56, 57, 54, 55, 52, 98, 53, 56, 97, 53, 97, 55, 101, 99, 97, 102, 54, 101, 100, 102, 53, 100, 49, 102, 50, 56, 98, 49, 51, 51, 98, 50, 99, 48, 50, 100, 56], [99, 117, 116], [97, 116], [108, 111, 111, 112, 46, 101, 120, 97, 109, 112, 108, 101, 47, 103, 48, 51, 52, 48, 51, 47, 108, 97, 119, 115, 46, 70, 110, 69, 120, 97, 99, 116, 86, 97, 114, 105, 97, 98, 108, 101, 84, 97, 98, 108, 101], [108, 111, 111, 112, 46, 101, 120, 97, 109, 112, 108, 101, 47, 103, 48, 51, 52, 48, 51, 47, 108, 97, 119, 115, 46, 70, 110, 69, 120, 97, 99, 116, 67, 111, 117, 110, 116, 79, 110, 101, 115], [108, 111, 111, 112, 46, 101, 120, 97, 109, 112, 108, 101, 47, 103, 48, 51, 52, 48, 51, 47, 108, 97, 119, 115, 46, 70, 110, 69, 120, 97, 99, 116, 80, 97, 114, 115, 101, 84, 97, 98, 108, 101], [108, 111, 111, 112, 46, 101, 120, 97, 109, 112, 108, 101, 47, 103, 48, 51, 52, 48, 51, 47, 108, 97, 119, 115, 46, 70, 110, 69, 120, 97, 99, 116, 68, 101, 112, 101, 110, 100, 115, 79, 110], [108, 111, 111, 112, 46, 101, 120, 97, 109, 112, 108, 101, 47, 103, 48, 51, 52, 48, 51, 47, 108, 97, 119, 115, 46, 70, 110, 69, 120, 97, 99, 116, 74, 111, 105, 110, 84, 97, 98, 108, 101, 115], [108, 111, 111, 112, 46, 101, 120, 97, 109, 112, 108, 101, 47, 103, 48, 51, 52, 48, 51, 47, 108, 97, 119, 115, 46, 70, 110, 69, 120, 97, 99, 116, 83, 104, 105, 102, 116, 84, 97, 98, 108, 101], [108, 111, 111, 112, 46, 101, 120, 97, 109, 112, 108, 101, 47, 103, 48, 51, 52, 48, 51, 47, 108, 97, 119, 115, 46, 70, 110, 69, 120, 97, 99, 116, 67, 117, 98, 101, 86, 97, 108, 117, 101], [108, 111, 111, 112, 46, 101, 120, 97, 109, 112, 108, 101, 47, 103, 48, 51, 52, 48, 51, 47, 108, 97, 119, 115, 46, 70, 110, 69, 120, 97, 99, 116, 82, 101, 115, 116, 114, 105, 99, 116, 84, 97, 98, 108, 101], [108, 111, 111, 112, 46, 101, 120, 97, 109, 112, 108, 101, 47, 103, 48, 51, 52, 48, 51, 47, 108, 97, 119, 115, 46, 70, 110, 69, 120, 97, 99, 116, 82, 101, 100, 117, 99, 101, 84, 97, 98, 108, 101], [108, 111, 111, 112, 46, 101, 120, 97, 109, 112, 108, 101, 47, 103, 48, 51, 52, 48, 51, 47, 108, 97, 119, 115, 46, 70, 110, 69, 120, 97, 99, 116, 86, 97, 114, 105, 97, 98, 108, 101, 115, 79, 102], [108, 111, 111, 112, 46, 101, 120, 97, 109, 112, 108, 101, 47, 103, 48, 51, 52, 48, 51, 47, 108, 97, 119, 115, 46, 70, 110, 69, 120, 97, 99, 116, 80, 101, 114, 109, 117, 116, 101, 84, 97, 98, 108, 101], [108, 111, 111, 112, 46, 101, 120, 97, 109, 112, 108, 101, 47, 103, 48, 51, 52, 48, 51, 47, 108, 97, 119, 115, 46, 70, 110, 69, 120, 97, 99, 116, 80, 101, 114, 109, 117, 116, 97, 116, 105, 111, 110, 115, 79, 102], [108, 111, 111, 112, 46, 101, 120, 97, 109, 112, 108, 101, 47, 103, 48, 51, 52, 48, 51, 47, 108, 97, 119, 115, 46, 70, 110, 69, 120, 97, 99, 116, 83, 121, 109, 109, 101, 116, 114, 105, 101, 115, 79, 102], [108, 111, 111, 112, 46, 101, 120, 97, 109, 112, 108, 101, 47, 103, 48, 51, 52, 48, 51, 47, 108, 97, 119, 115, 46, 70, 110, 69, 120, 97, 99, 116, 67, 111, 117, 110, 116, 84, 97, 98, 108, 101, 67, 108, 97, 115, 115, 101, 115], [108, 111, 111, 112, 46, 101, 120, 97, 109, 112, 108, 101, 47, 103, 48, 51, 52, 48, 51, 47, 108, 97, 119, 115, 46, 70, 110, 69, 120, 97, 99, 116, 67, 108, 97, 115, 115, 83, 105, 122, 101], [108, 111, 111, 112, 46, 101, 120, 97, 109, 112, 108, 101, 47, 103, 48, 51, 52, 48, 51, 47, 108, 97, 119, 115, 46, 70, 110, 69, 120, 97, 99, 116, 67, 97, 110, 111, 110, 105, 99, 97, 108, 84, 97, 98, 108, 101], [108, 111, 111, 112, 46, 101, 120, 97, 109, 112, 108, 101, 47, 103, 48, 51, 52, 48, 51, 47, 108, 97, 119, 115, 46, 70, 110, 69, 120, 97, 99, 116, 65, 114, 101, 65, 108, 105, 107, 101], [108, 111, 111, 112, 46, 101, 120, 97, 109, 112, 108, 101, 47, 103, 48, 51, 52, 48, 51, 47, 108, 97, 119, 115, 46, 70, 110, 82, 101, 115, 116, 114, 105, 99, 116, 105, 111, 110, 115]]
theorem twords_are : words2 letters = twords := by kernel_rfl
theorem small_are : (letters.all fun n => Nat.blt n 128) = true := by kernel_rfl
theorem ws_other (c : Char) (r : List Char) (h : c ≠ Char.ofNat 32) : wordsSigns (c :: r) = match wordsSigns r with | w :: ws => (c :: w) :: ws | [] => [[c]] := by
  exact wordsSigns.eq_3 c r h
theorem ne_space (n : Nat) (h : n < 128) (hn : n ≠ 32) : Char.ofNat n ≠ Char.ofNat 32 := by
  intro e
  have e2 : (Char.ofNat n).toNat = (Char.ofNat 32).toNat := by rw [e]
  have v : n.isValidChar := Or.inl (by omega)
  have v2 : (32 : Nat).isValidChar := Or.inl (by decide)
  simp only [Char.ofNat, v, v2, dite_true] at e2
  exact hn (by simpa [Char.ofNatAux, Char.toNat] using e2)
theorem ws_words : ∀ l : List Nat, (l.all fun n => Nat.blt n 128) = true → wordsSigns (l.map Char.ofNat) = (words2 l).map (List.map Char.ofNat)
  | [], _ => rfl
  | c :: r, h => by
    simp only [List.all_cons, Bool.and_eq_true] at h
    have hc : c < 128 := Nat.blt_eq.mp h.1
    have ih := ws_words r h.2
    by_cases e : c = 32
    · subst e
      rw [List.map_cons]
      show [] :: wordsSigns (r.map Char.ofNat) = _
      rw [ih]
      rfl
    · rw [List.map_cons, ws_other _ _ (ne_space c hc e), ih]
      have b : Nat.beq c 32 = false := by
        cases hb : Nat.beq c 32 with
        | true => exact absurd (Nat.eq_of_beq_eq_true hb) e
        | false => rfl
      have w2 : words2 (c :: r) = match words2 r with | w :: ws => (c :: w) :: ws | [] => [[c]] := by
        rw [words2, b]
      rw [w2]
      cases words2 r with
      | nil => rfl
      | cons w ws => rfl
theorem words_are : wordsSigns Try.prog.initOrder.toList = twords.map (List.map Char.ofNat) := by rw [order_list, ws_words _ small_are, twords_are]
def cutWord : List Char := [99, 117, 116].map Char.ofNat
def later : List (List Char) := (twords.drop 3).map (List.map Char.ofNat)
theorem cutWord_is : "cut".toList = cutWord := by kernel_rfl
theorem behind_is : behindMainWord (twords.map (List.map Char.ofNat)) = cutWord :: later := by kernel_rfl
theorem strip_is : stripLifts liftWords (cutWord :: later) = ([], cutWord :: later) := by kernel_rfl
theorem head_is {P : Program} (h : wordsSigns P.initOrder.toList = twords.map (List.map Char.ofNat)) : behindMainWord (wordsSigns P.initOrder.toList) = cutWord :: later := by rw [h, behind_is]
theorem lifts_are {P : Program} (h : wordsSigns P.initOrder.toList = twords.map (List.map Char.ofNat)) : P.headLifts = [] := by
  unfold Program.headLifts
  rw [head_is h, strip_is]
  simp
theorem mayEnter_of {P : Program} (h : wordsSigns P.initOrder.toList = twords.map (List.map Char.ofNat)) (l : P.laysLater = false) (b : P.bearsReflect = false) (d : P.doorFits [] = true) : P.mayEnter = true := by
  unfold Program.mayEnter
  rw [head_is h]
  simp only [strip_is, l, b, d, cutWord_is]
  kernel_rfl
theorem liftsFinal_of {P : Program} (h : wordsSigns P.initOrder.toList = twords.map (List.map Char.ofNat)) : P.liftsFinal = false := by
  unfold Program.liftsFinal
  rw [head_is h, lifts_are h]
  kernel_rfl
theorem make_of {P : Program} (h : wordsSigns P.initOrder.toList = twords.map (List.map Char.ofNat)) : P.make = some .cut := by
  unfold Program.make
  rw [head_is h]
  simp only []
  rw [if_neg (by decide), if_pos (by decide)]
theorem laysLater_no : Try.prog.laysLater = false := by kernel_rfl
theorem bearsReflect_no : Try.prog.bearsReflect = false := by kernel_rfl
theorem doorFits_yes : Try.prog.doorFits [] = true := by kernel_rfl
theorem mayEnter_yes : Try.prog.mayEnter = true := mayEnter_of words_are laysLater_no bearsReflect_no doorFits_yes
theorem liftsFinal_no : Try.prog.liftsFinal = false := liftsFinal_of words_are
theorem make_is : Try.prog.make = some .cut := make_of words_are
theorem joined_of {X a b c d e f g : Bool} (hX : X = true) (ha : a = true) (hb : b = true) (hc : c = true) (hd : d = true) (he : e = true) (hf : f = true) (hg : g = true) : (X && a && b && c && d && e && f && g) = true := by
  subst hX ha hb hc hd he hf hg
  rfl
end Go.Proofs.Ytijpcemcijaeeaa.Facts
