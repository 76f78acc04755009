/- The translation's head line, letter by letter, and what follows from it for every row of this seat; a row's closed facts, put together. No conditions. -/
import Derived.Test.YtfiejicdlaknnaaRows
import Derived.KernelRfl
namespace Go.Proofs.Ytfiejicdlaknnaa.Facts
set_option maxRecDepth 100000 in
def letters : List Nat := [104, 97, 114, 110, 101, 115, 115, 32, 50, 54, 52, 99, 100, 57, 100, 102, 55, 49, 50, 50, 51, 51, 97, 56, 97, 52, 48, 102, 49, 51, 57, 51, 49, 55, 49, 97, 56, 50, 51, 55, 53, 55, 100, 56, 101, 102, 51, 97, 101, 97, 99, 101, 49, 56, 102, 57, 98, 97, 53, 55, 97, 48, 50, 51, 55, 51, 56, 49, 49, 55, 100, 102, 32, 99, 117, 116, 32, 97, 116, 32, 108, 111, 111, 112, 46, 101, 120, 97, 109, 112, 108, 101, 47, 103, 48, 51, 52, 48, 51, 47, 108, 97, 119, 115, 46, 70, 110, 80, 114, 105, 109, 101, 115]
theorem order_lit : Try.prog.initOrder = String.ofList (letters.map Char.ofNat) := by kernel_rfl
theorem order_list : Try.prog.initOrder.toList = letters.map Char.ofNat := by rw [order_lit, String.toList_ofList]
def words2 : List Nat → List (List Nat)
  | [] => [[]]
  | c :: r => match Nat.beq c 32 with
    | true => [] :: words2 r
    | false => match words2 r with
      | w :: ws => (c :: w) :: ws
      | [] => [[c]]
set_option maxRecDepth 100000 in
def twords : List (List Nat) := [[104, 97, 114, 110, 101, 115, 115], [50, 54, 52, 99, 100, 57, 100, 102, 55, 49, 50, 50, 51, 51, 97, 56, 97, 52, 48, 102, 49, 51, 57, 51, 49, 55, 49, 97, 56, 50, 51, 55, 53, 55, 100, 56, 101, 102, 51, 97, 101, 97, 99, 101, 49, 56, 102, 57, 98, 97, 53, 55, 97, 48, 50, 51, 55, 51, 56, 49, 49, 55, 100, 102], [99, 117, 116], [97, 116], [108, 111, 111, 112, 46, 101, 120, 97, 109, 112, 108, 101, 47, 103, 48, 51, 52, 48, 51, 47, 108, 97, 119, 115, 46, 70, 110, 80, 114, 105, 109, 101, 115]]
theorem twords_are : words2 letters = twords := by kernel_rfl
theorem small_are : (letters.all fun n => Nat.blt n 128) = true := by kernel_rfl
theorem ws_other (c : Char) (r : List Char) (h : c ≠ Char.ofNat 32) : wordsSigns (c :: r) = match wordsSigns r with | w :: ws => (c :: w) :: ws | [] => [[c]] := by
  exact wordsSigns.eq_3 c r h
theorem ne_space (n : Nat) (h : n < 128) (hn : n ≠ 32) : Char.ofNat n ≠ Char.ofNat 32 := by
  intro e
  have e2 : (Char.ofNat n).toNat = (Char.ofNat 32).toNat := by rw [e]
  have v : n.isValidChar := Or.inl (by omega)
  have v2 : (32 : Nat).isValidChar := Or.inl (by decide)
  simp only [Char.ofNat, v, v2, dite_true] at e2
  exact hn (by simpa [Char.ofNatAux, Char.toNat] using e2)
theorem ws_words : ∀ l : List Nat, (l.all fun n => Nat.blt n 128) = true → wordsSigns (l.map Char.ofNat) = (words2 l).map (List.map Char.ofNat)
  | [], _ => rfl
  | c :: r, h => by
    simp only [List.all_cons, Bool.and_eq_true] at h
    have hc : c < 128 := Nat.blt_eq.mp h.1
    have ih := ws_words r h.2
    by_cases e : c = 32
    · subst e
      rw [List.map_cons]
      show [] :: wordsSigns (r.map Char.ofNat) = _
      rw [ih]
      rfl
    · rw [List.map_cons, ws_other _ _ (ne_space c hc e), ih]
      have b : Nat.beq c 32 = false := by
        cases hb : Nat.beq c 32 with
        | true => exact absurd (Nat.eq_of_beq_eq_true hb) e
        | false => rfl
      have w2 : words2 (c :: r) = match words2 r with | w :: ws => (c :: w) :: ws | [] => [[c]] := by
        rw [words2, b]
      rw [w2]
      cases words2 r with
      | nil => rfl
      | cons w ws => rfl
theorem words_are : wordsSigns Try.prog.initOrder.toList = twords.map (List.map Char.ofNat) := by rw [order_list, ws_words _ small_are, twords_are]
def cutWord : List Char := [99, 117, 116].map Char.ofNat
def later : List (List Char) := (twords.drop 3).map (List.map Char.ofNat)
theorem cutWord_is : "cut".toList = cutWord := by kernel_rfl
theorem behind_is : behindMainWord (twords.map (List.map Char.ofNat)) = cutWord :: later := by kernel_rfl
theorem strip_is : stripLifts liftWords (cutWord :: later) = ([], cutWord :: later) := by kernel_rfl
theorem head_is {P : Program} (h : wordsSigns P.initOrder.toList = twords.map (List.map Char.ofNat)) : behindMainWord (wordsSigns P.initOrder.toList) = cutWord :: later := by rw [h, behind_is]
theorem lifts_are {P : Program} (h : wordsSigns P.initOrder.toList = twords.map (List.map Char.ofNat)) : P.headLifts = [] := by
  unfold Program.headLifts
  rw [head_is h, strip_is]
  simp
theorem mayEnter_of {P : Program} (h : wordsSigns P.initOrder.toList = twords.map (List.map Char.ofNat)) (l : P.laysLater = false) (b : P.bearsReflect = false) (d : P.doorFits [] = true) : P.mayEnter = true := by
  unfold Program.mayEnter
  rw [head_is h]
  simp only [strip_is, l, b, d, cutWord_is]
  kernel_rfl
theorem liftsFinal_of {P : Program} (h : wordsSigns P.initOrder.toList = twords.map (List.map Char.ofNat)) : P.liftsFinal = false := by
  unfold Program.liftsFinal
  rw [head_is h, lifts_are h]
  kernel_rfl
theorem make_of {P : Program} (h : wordsSigns P.initOrder.toList = twords.map (List.map Char.ofNat)) : P.make = some .cut := by
  unfold Program.make
  rw [head_is h]
  simp only []
  rw [if_neg (by decide), if_pos (by decide)]
theorem laysLater_no : Try.prog.laysLater = false := by kernel_rfl
theorem bearsReflect_no : Try.prog.bearsReflect = false := by kernel_rfl
theorem doorFits_yes : Try.prog.doorFits [] = true := by kernel_rfl
theorem mayEnter_yes : Try.prog.mayEnter = true := mayEnter_of words_are laysLater_no bearsReflect_no doorFits_yes
theorem liftsFinal_no : Try.prog.liftsFinal = false := liftsFinal_of words_are
theorem make_is : Try.prog.make = some .cut := make_of words_are
theorem joined_of {X a b c d e f g : Bool} (hX : X = true) (ha : a = true) (hb : b = true) (hc : c = true) (hd : d = true) (he : e = true) (hf : f = true) (hg : g = true) : (X && a && b && c && d && e && f && g) = true := by
  subst hX ha hb hc hd he hf hg
  rfl
end Go.Proofs.Ytfiejicdlaknnaa.Facts
