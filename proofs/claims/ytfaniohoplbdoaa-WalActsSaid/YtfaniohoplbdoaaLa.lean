/- Plain facts on the checksum CRC-32C and on frames, over lists of bytes: no program in sight. -/
import Derived.Laws.BitsAllLaws
import Derived.Test.YtfaniohoplbdoaaPFrameAppendx1
import Derived.Laws.CopyOwn
import Derived.WalkSpells
import Derived.WalkLawsBesides
import Derived.Test.YtfaniohoplbdoaaPFrameNextx1
import Derived.Lib.SlBytesConst
import Derived.Deep.Matrix
import Derived.SizedLaws
namespace Go.Proofs.Ytfaniohoplbdoaa.My
open Go

/-! ### the checksum -/
def lst (r : Nat) : Nat := if r % 2 = 1 then (r / 2) ^^^ 2197175160 else r / 2
def lstN : Nat → Nat → Nat
  | 0, r => r
  | n + 1, r => lstN n (lst r)
def crcB (r : Nat) (c : Nat) : Nat := lstN 8 (r ^^^ c)
def crcL (r : Nat) (l : List Int) : Nat := l.foldl (fun r c => crcB r c.toNat) r
def sumL (l : List Int) : Nat := 4294967295 - crcL 4294967295 l

/-- bytes -/
def Byt (l : List Int) : Prop := ∀ x ∈ l, 0 ≤ x ∧ x ≤ 255
theorem Byt.append {a b : List Int} (ha : Byt a) (hb : Byt b) : Byt (a ++ b) := fun x hx => (List.mem_append.1 hx).elim (ha x) (hb x)
theorem Byt.left {a b : List Int} (h : Byt (a ++ b)) : Byt a := fun x hx => h x (List.mem_append.2 (.inl hx))
theorem Byt.right {a b : List Int} (h : Byt (a ++ b)) : Byt b := fun x hx => h x (List.mem_append.2 (.inr hx))
theorem Byt.take {a : List Int} (h : Byt a) (n : Nat) : Byt (a.take n) := fun x hx => h x (List.mem_of_mem_take hx)
theorem Byt.drop {a : List Int} (h : Byt a) (n : Nat) : Byt (a.drop n) := fun x hx => h x (List.mem_of_mem_drop hx)
theorem Byt.nil : Byt [] := fun x hx => by simp at hx
theorem Byt.at_ {l : List Int} (h : Byt l) (i : Nat) (hi : i < l.length) : 0 ≤ l[i] ∧ l[i] ≤ 255 := h _ (List.getElem_mem hi)

theorem lst_lt {r : Nat} (h : r < 4294967296) : lst r < 4294967296 := by
  unfold lst
  split
  · have := Nat.xor_lt_two_pow (n := 32) (x := r / 2) (y := 2197175160) (by omega) (by omega)
    simpa using this
  · omega
theorem lstN_lt (n : Nat) : ∀ {r : Nat}, r < 4294967296 → lstN n r < 4294967296 := by
  induction n with
  | zero => exact fun h => h
  | succ n ih => exact fun h => ih (lst_lt h)
theorem xor_lt32 {a b : Nat} (ha : a < 4294967296) (hb : b < 4294967296) : a ^^^ b < 4294967296 := by
  have := Nat.xor_lt_two_pow (n := 32) (x := a) (y := b) (by simpa using ha) (by simpa using hb)
  simpa using this
theorem crcB_lt {r c : Nat} (h : r < 4294967296) (hc : c < 4294967296) : crcB r c < 4294967296 := lstN_lt 8 (xor_lt32 h hc)
theorem crcL_cons (r : Nat) (c : Int) (l : List Int) : crcL r (c :: l) = crcL (crcB r c.toNat) l := rfl
theorem crcL_append (r : Nat) (a b : List Int) : crcL r (a ++ b) = crcL (crcL r a) b := by simp [crcL, List.foldl_append]
theorem crcL_lt : ∀ {l : List Int} {r : Nat}, r < 4294967296 → Byt l → crcL r l < 4294967296
  | [], _, h, _ => h
  | c :: l, r, h, hb => by
    rw [crcL_cons]
    have := hb c List.mem_cons_self
    exact crcL_lt (crcB_lt h (by omega)) (fun x hx => hb x (List.mem_cons_of_mem _ hx))
theorem sumL_lt (l : List Int) : sumL l < 4294967296 := by unfold sumL; omega

/-! the register's turns can be undone: other bytes, other registers -/
theorem lst_inj {a b : Nat} (ha : a < 4294967296) (hb : b < 4294967296) (h : lst a = lst b) : a = b := by
  unfold lst at h
  have key : ∀ x y : Nat, x < 2147483648 → y < 2147483648 → x ^^^ 2197175160 = y → False := by
    intro x y hx hy hxy
    have h1 : (x ^^^ 2197175160).testBit 31 = true := by
      rw [Nat.testBit_xor, Nat.testBit_lt_two_pow (x := x) (i := 31) (by omega)]
      decide
    rw [hxy, Nat.testBit_lt_two_pow (x := y) (i := 31) (by omega)] at h1
    cases h1
  split at h <;> split at h
  · have : a / 2 = b / 2 := by
      have := congrArg (· ^^^ 2197175160) h
      simpa [Nat.xor_assoc] using this
    omega
  · exact (key _ _ (by omega) (by omega) h).elim
  · exact (key _ _ (by omega) (by omega) h.symm).elim
  · omega
theorem lstN_inj (n : Nat) : ∀ {a b : Nat}, a < 4294967296 → b < 4294967296 → lstN n a = lstN n b → a = b := by
  induction n with
  | zero => exact fun _ _ h => h
  | succ n ih => exact fun ha hb h => lst_inj ha hb (ih (lst_lt ha) (lst_lt hb) h)
theorem xor_left_inj {r c d : Nat} (h : r ^^^ c = r ^^^ d) : c = d := by
  have := congrArg (r ^^^ ·) h
  simpa [← Nat.xor_assoc] using this
theorem xor_right_inj {r s c : Nat} (h : r ^^^ c = s ^^^ c) : r = s := by
  have := congrArg (· ^^^ c) h
  simpa [Nat.xor_assoc] using this
theorem crcL_inj : ∀ {l : List Int} {a b : Nat}, Byt l → a < 4294967296 → b < 4294967296 → crcL a l = crcL b l → a = b
  | [], _, _, _, _, _, h => h
  | c :: l, a, b, hl, ha, hb, h => by
    have hc := hl c List.mem_cons_self
    have := crcL_inj (l := l) (fun x hx => hl x (List.mem_cons_of_mem _ hx)) (crcB_lt ha (by omega)) (crcB_lt hb (by omega)) h
    exact xor_right_inj (lstN_inj 8 (xor_lt32 ha (by omega)) (xor_lt32 hb (by omega)) this)
/-- One byte turned: another checksum. -/
theorem sumL_set {l : List Int} (hl : Byt l) (i : Nat) (hi : i < l.length) (x : Int) (hx : 0 ≤ x ∧ x ≤ 255) (hne : x ≠ l[i]) : sumL (l.set i x) ≠ sumL l := by
  have hs : l = l.take i ++ l[i] :: l.drop (i + 1) := by rw [List.getElem_cons_drop, List.take_append_drop]
  have hset : l.set i x = l.take i ++ x :: l.drop (i + 1) := List.set_eq_take_append_cons_drop .. |>.trans (by rw [if_pos hi])
  intro h
  unfold sumL at h
  have h1 : crcL 4294967295 (l.set i x) < 4294967296 := crcL_lt (by omega) (by
    rw [hset]
    exact (hl.take i).append (fun y hy => by
      rcases List.mem_cons.1 hy with rfl | hy
      · exact hx
      · exact hl.drop _ y hy))
  have h2 : crcL 4294967295 l < 4294967296 := crcL_lt (by omega) hl
  have h3 : crcL 4294967295 (l.set i x) = crcL 4294967295 l := by omega
  rw [hset] at h3
  conv at h3 => rhs; rw [hs]
  rw [crcL_append, crcL_append, crcL_cons, crcL_cons] at h3
  have hr : crcL 4294967295 (l.take i) < 4294967296 := crcL_lt (by omega) (hl.take i)
  have hy := hl.at_ i hi
  have h4 := crcL_inj (hl.drop _) (crcB_lt hr (by omega)) (crcB_lt hr (by omega)) h3
  have h5 := xor_left_inj (lstN_inj 8 (xor_lt32 hr (by omega)) (xor_lt32 hr (by omega)) h4)
  omega

/-! ### four bytes of a number, and back -/
def be4 (n : Nat) : List Int := [((n / 16777216 % 256 : Nat) : Int), ((n / 65536 % 256 : Nat) : Int), ((n / 256 % 256 : Nat) : Int), ((n % 256 : Nat) : Int)]
/-- (The factors stand first: the kernel would count up a numeral behind a product's sign.) -/
def num4 (l : List Int) : Nat := 16777216 * (l.getD 0 0).toNat + 65536 * (l.getD 1 0).toNat + 256 * (l.getD 2 0).toNat + (l.getD 3 0).toNat
theorem be4_length (n : Nat) : (be4 n).length = 4 := rfl
theorem be4_byt (n : Nat) : Byt (be4 n) := by
  intro x hx
  simp only [be4, List.mem_cons, List.not_mem_nil, or_false] at hx
  omega
theorem num4_be4 (n : Nat) (h : n < 4294967296) (l : List Int) : num4 (be4 n ++ l) = n := by
  simp only [num4, be4, List.cons_append, List.getD_cons_zero, List.getD_cons_succ, Int.toNat_natCast]
  omega
theorem num4_lt {l : List Int} (hl : Byt l) : num4 l < 4294967296 := by
  have : ∀ i, (l.getD i 0).toNat ≤ 255 := fun i => by
    rw [List.getD_eq_getElem?_getD]
    cases h : l[i]? with
    | none => simp
    | some x => have := hl x (List.mem_of_getElem? h); simp; omega
  have h0 := this 0
  have h1 := this 1
  have h2 := this 2
  have h3 := this 3
  unfold num4
  omega
theorem num4_take (l : List Int) (n : Nat) (hn : 4 ≤ n) : num4 (l.take n) = num4 l := by
  have : ∀ i, i < 4 → (l.take n).getD i 0 = l.getD i 0 := fun i hi => by
    rw [List.getD_eq_getElem?_getD, List.getD_eq_getElem?_getD, List.getElem?_take, if_pos (by omega)]
  unfold num4
  rw [this 0 (by omega), this 1 (by omega), this 2 (by omega), this 3 (by omega)]

/-! ### frames -/
def headL (body : List Int) : List Int := be4 body.length ++ be4 (sumL (be4 body.length ++ body))
def frameL (body : List Int) : List Int := headL body ++ body
theorem headL_length (b : List Int) : (headL b).length = 8 := rfl
theorem frameL_length (b : List Int) : (frameL b).length = b.length + 8 := by simp [frameL, headL_length]; omega
theorem frameL_byt {b : List Int} (h : Byt b) : Byt (frameL b) := ((be4_byt _).append (be4_byt _)).append h
/-- Next at the begin of f: an error's number, or the body's length. -/
def peek (f : List Int) : Int × List Int :=
  if f.length < 8 then (2, []) else if 1048576 < num4 f then (5, []) else if f.length - 8 < num4 f then (2, [])
  else if num4 (f.drop 4) = sumL (f.take 4 ++ (f.drop 8).take (num4 f)) then (0, (f.drop 8).take (num4 f)) else (4, [])
/-- Next: the body, the offset after it, the error. -/
def nextL (b : List Int) (at_ : Int) : List Int × Int × Int :=
  if at_ < 0 ∨ (b.length : Int) < at_ then ([], 0, 6)
  else if (peek (b.drop at_.toNat)).1 = 0 then ((peek (b.drop at_.toNat)).2, at_ + 8 + (num4 (b.drop at_.toNat) : Int), 0) else ([], 0, (peek (b.drop at_.toNat)).1)
theorem peek_err (f : List Int) : (peek f).1 = 0 ∨ (peek f).1 = 2 ∨ (peek f).1 = 4 ∨ (peek f).1 = 5 := by
  unfold peek
  split
  · simp
  split
  · simp
  split
  · simp
  split <;> simp
theorem peek_ok {f : List Int} (h : (peek f).1 = 0) : 8 ≤ f.length ∧ num4 f ≤ 1048576 ∧ num4 f + 8 ≤ f.length ∧ (peek f).2 = (f.drop 8).take (num4 f) ∧ num4 (f.drop 4) = sumL (f.take 4 ++ (f.drop 8).take (num4 f)) := by
  unfold peek at h ⊢
  by_cases h1 : f.length < 8
  · simp [h1] at h
  by_cases h2 : 1048576 < num4 f
  · simp [h1, h2] at h
  by_cases h3 : f.length - 8 < num4 f
  · simp [h1, h2, h3] at h
  by_cases h4 : num4 (f.drop 4) = sumL (f.take 4 ++ (f.drop 8).take (num4 f))
  · simp only [h1, h2, h3, if_false, if_pos h4]
    exact ⟨by omega, by omega, by omega, trivial, h4⟩
  · simp [h1, h2, h3, h4] at h
/-- the records at the begin of f, and the bytes that they take; at most n of them are looked for -/
def scanF : Nat → List Int → List (List Int) × Nat
  | 0, _ => ([], 0)
  | n + 1, f => if (peek f).1 = 0 then ((peek f).2 :: (scanF n (f.drop (num4 f + 8))).1, num4 f + 8 + (scanF n (f.drop (num4 f + 8))).2) else ([], 0)
def scanL (b : List Int) : List (List Int) × Nat := scanF (b.length + 1) b
theorem peek_none {f : List Int} (h : f.length < 8) : (peek f).1 = 2 := by simp [peek, h]
theorem scanF_more : ∀ (n m : Nat) (f : List Int), f.length < n → f.length < m → scanF n f = scanF m f
  | 0, _, _, h, _ => by omega
  | _ + 1, 0, _, _, h => by omega
  | n + 1, m + 1, f, hn, hm => by
    unfold scanF
    by_cases h : (peek f).1 = 0
    · have := (peek_ok h).2.2.1
      rw [if_pos h, if_pos h, scanF_more n m (f.drop (num4 f + 8)) (by simp; omega) (by simp; omega)]
    · rw [if_neg h, if_neg h]
theorem scanL_step {f : List Int} (h : (peek f).1 = 0) : scanL f = ((peek f).2 :: (scanL (f.drop (num4 f + 8))).1, num4 f + 8 + (scanL (f.drop (num4 f + 8))).2) := by
  have hl := (peek_ok h).2.2.1
  unfold scanL
  rw [show scanF (f.length + 1) f = _ from rfl, scanF, if_pos h, scanF_more f.length ((f.drop (num4 f + 8)).length + 1) _ (by simp; omega) (by omega)]
theorem scanL_stop {f : List Int} (h : (peek f).1 ≠ 0) : scanL f = ([], 0) := by
  unfold scanL
  rw [scanF, if_neg h]
theorem scanL_le0 (f : List Int) (h : ¬ (peek f).1 = 0) : (scanL f).2 ≤ f.length ∧ (scanL f).1.length * 8 ≤ f.length := by
  rw [scanL_stop h]
  simp
theorem scanL_le1 (n : Nat) (ih : ∀ f : List Int, f.length ≤ n → (scanL f).2 ≤ f.length ∧ (scanL f).1.length * 8 ≤ f.length) (f : List Int) (hn : f.length ≤ n + 1) (h : (peek f).1 = 0) : (scanL f).2 ≤ f.length ∧ (scanL f).1.length * 8 ≤ f.length := by
  have hl := (peek_ok h).2.2.1
  have h1 := ih (f.drop (num4 f + 8)) (by rw [List.length_drop]; generalize num4 f = m at hl; omega)
  rw [scanL_step h]
  rw [List.length_drop] at h1
  revert hl h1
  generalize num4 f = m
  generalize scanL (f.drop (m + 8)) = p
  obtain ⟨p1, p2⟩ := p
  intro hl h1
  simp only [List.length_cons] at h1 ⊢
  omega
theorem scanL_le (n : Nat) : ∀ f : List Int, f.length ≤ n → (scanL f).2 ≤ f.length ∧ (scanL f).1.length * 8 ≤ f.length := by
  induction n with
  | zero => exact fun f hn => scanL_le0 f (by rw [peek_none (by omega)]; decide)
  | succ n ih =>
    intro f hn
    by_cases h : (peek f).1 = 0
    · exact scanL_le1 n ih f hn h
    · exact scanL_le0 f h
theorem peek_frame (body : List Int) (hb : body.length ≤ 1048576) (rest : List Int) : peek (frameL body ++ rest) = (0, body) ∧ num4 (frameL body ++ rest) = body.length := by
  have hn : num4 (frameL body ++ rest) = body.length := by
    unfold frameL headL
    simp only [List.append_assoc]
    exact num4_be4 _ (by omega) _
  refine ⟨?_, hn⟩
  have hlen : (frameL body ++ rest).length = body.length + 8 + rest.length := by simp [frameL_length]
  have hd4 : (frameL body ++ rest).drop 4 = be4 (sumL (be4 body.length ++ body)) ++ (body ++ rest) := by
    unfold frameL headL
    simp only [List.append_assoc]
    exact List.drop_left' (be4_length _)
  have ht4 : (frameL body ++ rest).take 4 = be4 body.length := by
    unfold frameL headL
    simp only [List.append_assoc]
    exact List.take_left' (be4_length _)
  have hd8 : (frameL body ++ rest).drop 8 = body ++ rest := by
    unfold frameL
    rw [List.append_assoc]
    exact List.drop_left' (headL_length _)
  unfold peek
  rw [hn, hd4, ht4, hd8, num4_be4 _ (sumL_lt _), List.take_left' rfl, if_neg (by omega), if_neg (by omega), if_neg (by omega), if_pos rfl]
def framesL (l : List (List Int)) : List Int := (l.map frameL).flatten
theorem framesL_cons (b : List Int) (l : List (List Int)) : framesL (b :: l) = frameL b ++ framesL l := rfl
theorem framesL_append (l m : List (List Int)) : framesL (l ++ m) = framesL l ++ framesL m := by simp [framesL]
/-- frames are found again, whatever comes behind them -/
theorem scanL_frames : ∀ (l : List (List Int)) (rest : List Int), (∀ b ∈ l, b.length ≤ 1048576) → scanL (framesL l ++ rest) = (l ++ (scanL rest).1, (framesL l).length + (scanL rest).2)
  | [], rest, _ => by simp [framesL]
  | b :: l, rest, h => by
    have hb := h b List.mem_cons_self
    have hp := peek_frame b hb (framesL l ++ rest)
    rw [framesL_cons, List.append_assoc, scanL_step (by rw [hp.1]), hp.1, hp.2, List.drop_left' (by rw [frameL_length]), scanL_frames l rest (fun x hx => h x (List.mem_cons_of_mem _ hx))]
    simp [frameL_length]
    omega
theorem scanL_short {f : List Int} (h : f.length < 8) : scanL f = ([], 0) := scanL_stop (by rw [peek_none h]; decide)
/-- a part of a frame is none -/
theorem scanL_torn (b : List Int) (hb : b.length ≤ 1048576) (k : Nat) (hk : k < b.length + 8) : scanL ((frameL b).take k) = ([], 0) := by
  by_cases h8 : k < 8
  · exact scanL_short (by simp; omega)
  refine scanL_stop ?_
  have hn : num4 ((frameL b).take k) = b.length := by
    rw [num4_take _ _ (by omega)]
    have := (peek_frame b hb []).2
    simpa using this
  have hlen : ((frameL b).take k).length = k := by simp [frameL_length]; omega
  unfold peek
  rw [hlen, hn, if_neg (by omega), if_neg (by omega), if_pos (by omega)]
  decide
/-- what Scan finds lies there as frames -/
theorem be4_num4 {f : List Int} (hf : Byt f) (h : 4 ≤ f.length) : be4 (num4 f) = f.take 4 := by
  match f, h with
  | a :: b :: c :: d :: r, _ =>
    have ha := hf a (by simp)
    have hb := hf b (by simp)
    have hc := hf c (by simp)
    have hd := hf d (by simp)
    simp only [be4, num4, List.getD_cons_zero, List.getD_cons_succ, List.take_succ_cons, List.take_zero, List.cons.injEq, and_true]
    omega
theorem peek_is {f : List Int} (hf : Byt f) (h : (peek f).1 = 0) : f.take (num4 f + 8) = frameL (peek f).2 ∧ (peek f).2.length = num4 f := by
  obtain ⟨h1, h2, h3, h4, h5⟩ := peek_ok h
  have hl : (peek f).2.length = num4 f := by rw [h4]; simp; omega
  refine ⟨?_, hl⟩
  unfold frameL headL
  rw [hl, be4_num4 hf (by omega), h4, ← h5, be4_num4 (hf.drop 4) (by simp; omega)]
  rw [show f.take 4 ++ (f.drop 4).take 4 = f.take 8 from (List.take_add (i := 4) (j := 4)).symm, show num4 f + 8 = 8 + num4 f from Nat.add_comm _ _, List.take_add]
theorem scanL_is0 (f : List Int) (h : ¬ (peek f).1 = 0) : f.take (scanL f).2 = framesL (scanL f).1 ∧ ∀ b ∈ (scanL f).1, b.length ≤ 1048576 := by
  rw [scanL_stop h]
  simp [framesL]
theorem scanL_is1 (n : Nat) (ih : ∀ f : List Int, f.length ≤ n → Byt f → f.take (scanL f).2 = framesL (scanL f).1 ∧ ∀ b ∈ (scanL f).1, b.length ≤ 1048576) (f : List Int) (hn : f.length ≤ n + 1) (hf : Byt f) (h : (peek f).1 = 0) :
    f.take (scanL f).2 = framesL (scanL f).1 ∧ ∀ b ∈ (scanL f).1, b.length ≤ 1048576 := by
  obtain ⟨_, h2, hl, _⟩ := peek_ok h
  have h1 := ih (f.drop (num4 f + 8)) (by rw [List.length_drop]; generalize num4 f = m at hl; omega) (hf.drop _)
  obtain ⟨p1, p2⟩ := peek_is hf h
  rw [scanL_step h]
  revert h1 p1 p2 h2
  generalize num4 f = m
  generalize scanL (f.drop (m + 8)) = p
  generalize (peek f).2 = y
  intro h2 h1 p1 p2
  refine ⟨?_, fun b hb => ?_⟩
  · show f.take (m + 8 + p.2) = framesL (y :: p.1)
    rw [List.take_add, p1, h1.1, framesL_cons]
  · rcases List.mem_cons.1 hb with hb | hb
    · rw [hb, p2]
      exact h2
    · exact h1.2 b hb
theorem scanL_is (n : Nat) : ∀ f : List Int, f.length ≤ n → Byt f → f.take (scanL f).2 = framesL (scanL f).1 ∧ ∀ b ∈ (scanL f).1, b.length ≤ 1048576 := by
  induction n with
  | zero => exact fun f hn _ => scanL_is0 f (by rw [peek_none (by omega)]; decide)
  | succ n ih =>
    intro f hn hf
    by_cases h : (peek f).1 = 0
    · exact scanL_is1 n ih f hn hf h
    · exact scanL_is0 f h
end Go.Proofs.Ytfaniohoplbdoaa.My
/- The checksum's functions: what frame.update, frame.Sum, frame.sum, step and the reference's Sum compute. -/
set_option linter.unusedVariables false
set_option linter.unusedSimpArgs false
namespace Go.Proofs.Ytfaniohoplbdoaa.My
open Go Go.RowKit Go.Proofs.YtfaniohoplbdoaaW.PrintWords Go.Proofs.YtfaniohoplbdoaaW.PrintLast Go.Proofs.YtfaniohoplbdoaaW.PrintMore
open Go.Proofs.Ytfaniohoplbdoaa.PFrameAppend (frame_update.l0 frame_update.l1 frame_update.f frame_update.calls bitemporalref10_step.l0 bitemporalref10_step.f bitemporalref10_step.calls)

theorem wrap_succ {i : Nat} (h : i < 9223372036854775807) : wrap64 ((i : Int) + 1) = ((i + 1 : Nat) : Int) := by
  unfold wrap64
  omega
theorem upd_l1 (l : List Int) (n i : Int) (d : Nat) : ∀ (k j r : Nat), j + d = 8 → r < 4294967296 → frame_update.l1 (k + d + 1) (r : Int) l n i (j : Int) = frame_update.l0 k (lstN d r : Nat) l n (wrap64 (i + 1)) := by
  induction d with
  | zero =>
    intro k j r hj hr
    obtain rfl : j = 8 := by omega
    rw [frame_update.l1]
    rfl
  | succ d ih =>
    intro k j r hj hr
    rw [show k + (d + 1) + 1 = (k + d + 1) + 1 from by omega, frame_update.l1, if_pos (by omega)]
    have hand : Go.bits .and .u32 (r : Int) 1 = ((r % 2 : Nat) : Int) := by
      have := u32_and_nat r 1 hr (by omega)
      rw [Nat.and_one_is_mod] at this
      exact this
    have hw : wrap64 ((j : Int) + 1) = ((j + 1 : Nat) : Int) := wrap_succ (by omega)
    have hx : Go.bits .xor .u32 ((r : Int) / 2) 2197175160 = (((r / 2) ^^^ 2197175160 : Nat) : Int) := by
      have := u32_xor_nat (r / 2) 2197175160 (by omega) (by omega)
      simpa using this
    rw [hand, hw, hx]
    by_cases h1 : r % 2 = 1
    · rw [if_pos (by omega), ih k (j + 1) _ (by omega) (by have := lst_lt hr; rwa [lst, if_pos h1] at this)]
      rw [lstN, lst, if_pos h1]
    · rw [if_neg (by omega), show ((r : Int) / 2) = ((r / 2 : Nat) : Int) from by omega, ih k (j + 1) _ (by omega) (by omega)]
      rw [lstN, lst, if_neg h1]
theorem upd_l0 (l : List Int) (hl : l.length ≤ 9223372036854775807) (hb : Byt l) (d : Nat) : ∀ (i r : Nat), i + d = l.length → r < 4294967296 → frame_update.l0 (10 * d + 1) (r : Int) l (l.length : Int) (i : Int) = some ((crcL r (l.drop i) : Nat) : Int) := by
  induction d with
  | zero =>
    intro i r hi hr
    rw [frame_update.l0, if_neg (by omega), List.drop_of_length_le (by omega)]
    rfl
  | succ d ih =>
    intro i r hi hr
    have hlt : i < l.length := by omega
    have hx := hb.at_ i hlt
    have hrd : rd l (i : Int) = l[i] := by simp [rd, List.getD_eq_getElem?_getD, List.getElem?_eq_getElem hlt]
    rw [show 10 * (d + 1) + 1 = (10 * d + 1 + 8 + 1) + 1 from by omega, frame_update.l0, if_pos (by omega), if_pos (by omega), if_pos (by omega), hrd]
    obtain ⟨c, hc⟩ := Int.eq_ofNat_of_zero_le hx.1
    have hx1 : Go.bits .xor .u32 (r : Int) (l[i] % 4294967296) = ((r ^^^ c : Nat) : Int) := by
      rw [hc, show ((c : Int) % 4294967296) = (c : Int) from by omega]
      exact u32_xor_nat r c hr (by omega)
    rw [hx1]
    have h1 := upd_l1 l (l.length : Int) (i : Int) 8 (10 * d + 1) 0 (r ^^^ c) (by omega) (xor_lt32 hr (by omega))
    rw [show ((0 : Nat) : Int) = 0 from rfl] at h1
    rw [h1, wrap_succ (by omega), ih (i + 1) _ (by omega) (lstN_lt 8 (xor_lt32 hr (by omega)))]
    rw [← List.getElem_cons_drop (h := hlt), crcL_cons, hc, Int.toNat_natCast]
    rfl
theorem step_l0 (d : Nat) : ∀ (j r : Nat), j + d = 8 → r < 4294967296 → bitemporalref10_step.l0 (d + 1) (r : Int) (j : Int) = some ((lstN d r : Nat) : Int) := by
  induction d with
  | zero =>
    intro j r hj hr
    obtain rfl : j = 8 := by omega
    rw [bitemporalref10_step.l0]
    rfl
  | succ d ih =>
    intro j r hj hr
    rw [bitemporalref10_step.l0, if_pos (by omega)]
    have hm : Int.tmod (r : Int) 2 = ((r % 2 : Nat) : Int) := by rw [Int.tmod_eq_emod_of_nonneg (by omega)]; omega
    have hd : (Int.tdiv (r : Int) 2) % 4294967296 = ((r / 2 : Nat) : Int) := by rw [Int.tdiv_eq_ediv_of_nonneg (by omega)]; omega
    have hw : wrap64 ((j : Int) + 1) = ((j + 1 : Nat) : Int) := wrap_succ (by omega)
    have hx : Go.bits .xor .u32 ((r / 2 : Nat) : Int) 2197175160 = (((r / 2) ^^^ 2197175160 : Nat) : Int) := u32_xor_nat (r / 2) 2197175160 (by omega) (by omega)
    rw [hm, hd, hw, hx]
    by_cases h1 : r % 2 = 1
    · rw [if_pos (by omega), ih (j + 1) _ (by omega) (by have := lst_lt hr; rwa [lst, if_pos h1] at this)]
      rw [lstN, lst, if_pos h1]
    · rw [if_neg (by omega), ih (j + 1) _ (by omega) (by omega)]
      rw [lstN, lst, if_neg h1]

/-! ### the contracts -/
abbrev CB (w : World) (A : Option Addr) (l : List Int) : Prop := Kd.C (Kd.int .u8) w A l.length l
theorem upd_calls (r : Nat) (hr : r < 4294967296) (A : Option Addr) (c : Nat) (l : List Int) (w : World) (hC : CB w A l) (hc : l.length ≤ c) (hb : Byt l) :
    Calls Try.prog 68 #[.int .u32 (r : Int), .slice A l.length c] w fun e w' => e = .returned (.int .u32 (crcL r l : Nat)) ∧ Drawn0 w w' := by
  refine frame_update.calls (10 * l.length + 1) (r : Int) A c l _ w hC hc ?_
  have := upd_l0 l (Kd.C_max hC) hb l.length 0 r (by omega) hr
  simpa [frame_update.f] using this
theorem step_calls (r : Nat) (hr : r < 4294967296) (c : Int) (h0 : 0 ≤ c) (h1 : c ≤ 255) (w : World) :
    Calls Try.prog 69 #[.int .u32 (r : Int), .int .u8 c] w fun e w' => e = .returned (.int .u32 (crcB r c.toNat : Nat)) ∧ Drawn0 w w' := by
  refine bitemporalref10_step.calls 9 (r : Int) c _ w ?_
  obtain ⟨n, rfl⟩ := Int.eq_ofNat_of_zero_le h0
  have hx1 : Go.bits .xor .u32 (r : Int) ((n : Int) % 4294967296) = ((r ^^^ n : Nat) : Int) := by
    rw [show ((n : Int) % 4294967296) = (n : Int) from by omega]
    exact u32_xor_nat r n hr (by omega)
  unfold bitemporalref10_step.f
  rw [hx1]
  exact step_l0 8 0 (r ^^^ n) (by omega) (xor_lt32 hr (by omega))
theorem not32 (r : Nat) (hr : r < 4294967296) : Go.bits .xor .u32 IntKind.u32.max (r : Int) = ((4294967295 - r : Nat) : Int) := by
  rw [show IntKind.u32.max = ((4294967295 : Nat) : Int) from rfl]
  have h := u32_xor_nat 4294967295 r (by omega) hr
  have hx : (4294967295 ^^^ r : Nat) = 4294967295 - r := by
    apply Nat.eq_of_testBit_eq
    intro i
    rw [show (4294967295 : Nat) = 2 ^ 32 - 1 from rfl, Nat.testBit_xor, Nat.testBit_two_pow_sub_one, Nat.sub_sub, Nat.add_comm 1 r, Nat.testBit_two_pow_sub_succ (by simpa using hr)]
    by_cases hi : i < 32
    · simp [hi]
    · simp only [hi, decide_false, Bool.false_bne, Bool.false_and]
      exact Nat.testBit_lt_two_pow (Nat.lt_of_lt_of_le (show r < 2 ^ 32 from hr) (Nat.pow_le_pow_right (n := 2) (by decide) (Nat.le_of_not_lt hi)))
  rw [hx] at h
  exact h
set_option maxHeartbeats 400000 in
theorem fSum_calls (A : Option Addr) (c : Nat) (l : List Int) (w : World) (hC : CB w A l) (hc : l.length ≤ c) (hb : Byt l) :
    Calls Try.prog 18 #[.slice A l.length c] w fun e w' => e = .returned (.int .u32 (sumL l : Nat)) ∧ Drawn0 w w' := by
  have HN := Aside0.mk (not32 _ (crcL_lt (r := 4294967295) (by omega) hb))
  have HU := Aside0.mk (upd_calls 4294967295 (by omega) A c l w hC hc hb)
  clear hC hc hb
  go_enter Try.func18, Try.ntmps18
  go_wp2_with fail
  refine HU.out.mono ?_
  rintro e w' ⟨rfl, hw⟩
  obtain ⟨n, rfl⟩ := hw
  go_wp2
  go_ret
  exact ⟨by rw [HN.out]; rfl, ⟨_, rfl⟩⟩
set_option maxHeartbeats 400000 in
theorem fsum_calls (A : Option Addr) (c : Nat) (l : List Int) (A' : Option Addr) (c' : Nat) (l' : List Int) (w : World) (hC : CB w A l) (hc : l.length ≤ c) (hb : Byt l) (hC' : CB w A' l') (hc' : l'.length ≤ c') (hb' : Byt l') :
    Calls Try.prog 71 #[.slice A l.length c, .slice A' l'.length c'] w fun e w' => e = .returned (.int .u32 (sumL (l ++ l') : Nat)) ∧ Drawn0 w w' := by
  have hl := crcL_lt (r := 4294967295) (by omega) hb
  have HN := Aside0.mk (not32 _ (crcL_lt hl hb'))
  have HU := Aside0.mk (upd_calls 4294967295 (by omega) A c l w hC hc hb)
  have HU' := Aside0.mk (fun n => upd_calls (crcL 4294967295 l) hl A' c' l' (w.drewN n) (Kd.C_drewN hC' n) hc' hb')
  clear hC hc hb hC' hc' hb' hl
  go_enter Try.func71, Try.ntmps71
  go_wp2_with fail
  refine HU.out.mono ?_
  rintro e w' ⟨rfl, hw⟩
  obtain ⟨n, rfl⟩ := hw
  go_wp2_with fail
  refine (HU'.out n).mono ?_
  rintro e w' ⟨rfl, hw⟩
  obtain ⟨m, rfl⟩ := hw
  go_wp2
  go_ret
  exact ⟨by rw [HN.out, sumL, crcL_append]; rfl, ⟨_, rfl⟩⟩
set_option maxHeartbeats 400000 in
theorem rSum_calls (A : Option Addr) (c : Nat) (l : List Int) (w : World) (hC : CB w A l) (hc : l.length ≤ c) (hb : Byt l) :
    Calls Try.prog 19 #[.slice A l.length c] w fun e w' => e = .returned (.int .u32 (sumL l : Nat)) ∧ Drawn0 w w' := by
  have hm := Kd.C_max hC
  have HR := Aside0.mk hC
  have HB := Aside0.mk hb
  have HN := Aside0.mk (not32 _ (crcL_lt (r := 4294967295) (by omega) hb))
  clear hC hc hb
  go_enter Try.func19, Try.ntmps19
  go_wp2
  go_loopw [3, 8] (fun v i wr => ∃ k : Nat, k ≤ l.length ∧ i = .int .i64 k ∧ v = .int .u32 (crcL 4294967295 (l.take k) : Nat) ∧ Drawn0 w wr) (fun _ i _ => l.length - (intOf i).toNat)
  case atStart => exact ⟨0, by omega, rfl, rfl, Drawn0.refl w⟩
  case round =>
    obtain ⟨k, hk, rfl, rfl, hw⟩ := hrel
    obtain ⟨n, rfl⟩ := hw
    by_cases hlt : k < l.length
    · obtain ⟨ad, rfl, hcell⟩ := Kd.at_int HR.out (k : Int) (by omega) (by omega)
      have hx := HB.out.at_ k hlt
      have hrd : rd l (k : Int) = l[k] := by simp [rd, List.getD_eq_getElem?_getD, List.getElem?_eq_getElem hlt]
      rw [Int.toNat_natCast, hrd] at hcell
      have hr := crcL_lt (r := 4294967295) (by omega) (HB.out.take k)
      have HS := Aside0.mk (fun m => step_calls (crcL 4294967295 (l.take k)) hr l[k] hx.1 hx.2 (w.drewN m))
      have HT := Aside0.mk (show crcL 4294967295 (l.take (k + 1)) = crcB (crcL 4294967295 (l.take k)) l[k].toNat by
        rw [List.take_succ_eq_append_getElem hlt, crcL_append]; rfl)
      clear hx hrd hr
      go_wp2_with (go_at_call 69; refine (HS.out _).mono ?_; rintro e w' ⟨rfl, ⟨m, rfl⟩⟩)
      go_roundw
      case rel => exact ⟨k + 1, by omega, by go_num, by rw [HT.out], ⟨_, rfl⟩⟩
      case measure => simp [intOf]; omega
    · obtain rfl : k = l.length := by omega
      go_wp2
      go_ret
      exact ⟨by rw [HN.out]; rfl, ⟨_, rfl⟩⟩
end Go.Proofs.Ytfaniohoplbdoaa.My
/- Four bytes of a number and back: frame.put, frame.get, four and number; frame.Append. -/
namespace Go.Proofs.Ytfaniohoplbdoaa.My
open Go Go.RowKit Go.Proofs.YtfaniohoplbdoaaW.PrintWords Go.Proofs.YtfaniohoplbdoaaW.PrintLast Go.Proofs.YtfaniohoplbdoaaW.PrintMore
set_option linter.unusedVariables false
set_option linter.unusedSimpArgs false

/-- A block's cells. -/
abbrev Blk (w : World) (g : Nat) (cur : List Value) : Prop := w.heap[g]? = some (.cells cur.toArray 5 (0, 0))
abbrev bts (l : List Int) : List Value := nums .u8 l
theorem Blk.cell {w : World} {g : Nat} {cur : List Value} (h : Blk w g cur) (i : Nat) (hi : i < cur.length) : w.cell? ⟨g, i, none⟩ = some cur[i] := by
  rw [blk_cell h]
  simp [hi]
theorem Blk.set {w : World} {g : Nat} {cur : List Value} (h : Blk w g cur) (i : Nat) (v : Value) : Blk (w.setCell ⟨g, i, none⟩ v) g (cur.set i v) := by
  have := blk_set h i v
  rw [List.setIfInBounds_toArray] at this
  exact this
theorem splice_snoc {cur vs : List Value} {o : Nat} {v : Value} (h : o + vs.length < cur.length) : (splice cur o vs).set (o + vs.length) v = splice cur o (vs ++ [v]) := by
  unfold splice
  rw [List.set_append_right _ _ (by simp; omega), List.set_append_right _ _ (by simp; omega)]
  simp only [List.length_take, List.append_assoc, List.length_append, List.length_cons, List.length_nil]
  rw [show o + vs.length - min o cur.length - vs.length = 0 from by omega, List.drop_eq_getElem_cons (by omega), List.set_cons_zero, show o + vs.length + 1 = o + (vs.length + 1) from by omega]
  rfl
theorem grown_setCell {w w1 : World} {g : Nat} (h : w.grownBy w1 (some g)) (i : Nat) (v : Value) : w.grownBy (w1.setCell ⟨g, i, none⟩ v) (some g) := by
  obtain ⟨h1, h2, h3, h4, h5⟩ := h
  refine ⟨h1, h2, h3, by simpa [World.setCell] using h4, fun k hk hne => ?_⟩
  rw [Below.heap_setCell w1 ⟨g, i, none⟩ v k (fun e => hne (by rw [e]))]
  exact h5 k hk hne
theorem grown_drew {w w1 : World} {r : Option Nat} (h : w.grownBy w1 r) : w.grownBy w1.drew r := ⟨h.os, h.tape, h.output, h.size, h.block⟩
theorem grown_drewN {w w1 : World} {r : Option Nat} (h : w.grownBy w1 r) (n : Nat) : w.grownBy (w1.drewN n) r := ⟨h.os, h.tape, h.output, h.size, h.block⟩

theorem put_step {wr : World} {g o n k : Nat} {cur : List Value} {x : Int} (hB : Blk wr g (splice cur o ((bts (be4 n)).take k))) (hk : k < 4) (hfit : o + 4 ≤ cur.length) (hx : x = (be4 n).getD k 0) :
    Blk (wr.setCell ⟨g, o + k, none⟩ (.int .u8 x)) g (splice cur o ((bts (be4 n)).take (k + 1))) := by
  have h := hB.set (o + k) (.int .u8 x)
  have hl : ((bts (be4 n)).take k).length = k := by simp [nums, be4]; omega
  have hlt : k < (bts (be4 n)).length := by simp [nums, be4]; omega
  have e := splice_snoc (cur := cur) (vs := (bts (be4 n)).take k) (o := o) (v := .int .u8 x) (by omega)
  rw [hl] at e
  rw [e] at h
  rw [List.take_succ_eq_append_getElem hlt]
  have : (bts (be4 n))[k] = .int .u8 x := by
    rw [hx]
    simp only [nums, List.getElem_map]
    congr 1
    rw [List.getD_eq_getElem?_getD, List.getElem?_eq_getElem (by simpa [nums] using hlt)]
    rfl
  rw [this]
  exact h
set_option maxHeartbeats 1000000 in
theorem put_calls (w : World) (g o len cap : Nat) (cur : List Value) (n : Nat) (hn : n < 4294967296) (h4 : 4 ≤ len) (hl : len ≤ cap) (hm : cap ≤ 9223372036854775807) (hg : Blk w g cur) (hfit : o + 4 ≤ cur.length) :
    Calls Try.prog 70 #[.slice (some ⟨g, o, none⟩) len cap, .int .u32 (n : Int)] w fun e w' => e = .returned (.tuple #[]) ∧ Blk w' g (splice cur o (bts (be4 n))) ∧ w.grownBy w' (some g) := by
  have HG := Aside0.mk hg
  have HF := Aside0.mk hfit
  clear hg hfit
  go_enter Try.func70, Try.ntmps70
  go_wp2
  go_loopw [5] (fun i wr => ∃ k : Nat, k ≤ 4 ∧ i = .int .i64 k ∧ Aside0 (Blk wr g (splice cur o ((bts (be4 n)).take k))) ∧ Aside0 (w.grownBy wr (some g))) (fun i _ => 4 - (intOf i).toNat)
  case atStart => exact ⟨0, by omega, rfl, ⟨by simpa [splice] using HG.out⟩, ⟨World.grownBy.refl _ _⟩⟩
  case round =>
    obtain ⟨k, hk, rfl, hB, hW⟩ := hrel
    have hlen : (splice cur o ((bts (be4 n)).take k)).length = cur.length := length_splice _ _ _ (by have := HF.out; simp [nums, be4]; omega)
    have HL := Aside0.mk hlen
    clear hlen
    by_cases hlt : k < 4
    · obtain ⟨u, hu⟩ : ∃ u, wr.cell? ⟨g, o + k, none⟩ = some u := ⟨_, hB.out.cell (o + k) (by rw [HL.out]; have := HF.out; omega)⟩
      have hf := blk_frozen hB.out (o + k)
      obtain rfl | rfl | rfl | rfl : k = 0 ∨ k = 1 ∨ k = 2 ∨ k = 3 := by omega
      all_goals
        (try rw [Nat.add_zero] at hu hf)
        go_wp2
        go_roundw
        case measure => simp [intOf]
        case rel => exact ⟨_, by decide, rfl, ⟨put_step hB.out (by omega) HF.out (by simp [be4] <;> omega)⟩, ⟨grown_setCell hW.out _ _⟩⟩
    · obtain rfl : k = 4 := by omega
      go_wp2
      go_end0
      exact ⟨rfl, by have := hB.out; rwa [List.take_of_length_le (by simp [nums, be4])] at this, hW.out⟩

/-! ### reading them -/
theorem rd_getD (l : List Int) (i : Nat) : rd l (i : Int) = l.getD i 0 := by simp [rd]
theorem or4 (a b c d : Nat) (ha : a < 256) (hb : b < 256) (hc : c < 256) (hd : d < 256) :
    Go.bits .or .u32 (Go.bits .or .u32 (Go.bits .or .u32 ((((a : Int) % 4294967296) * 16777216) % 4294967296) ((((b : Int) % 4294967296) * 65536) % 4294967296)) ((((c : Int) % 4294967296) * 256) % 4294967296)) ((d : Int) % 4294967296) = ((16777216 * a + 65536 * b + 256 * c + d : Nat) : Int) := by
  have hk : ∀ n : Int, 0 ≤ n → n < 2 ^ 32 → IntKind.u32.wrap n = n := fun n h0 h1 => by rw [IntKind.wrap_u32]; omega
  have e1 := bits_join .u32 32 (by decide) hk 24 ((((a : Int) % 4294967296) * 16777216) % 4294967296) ((((b : Int) % 4294967296) * 65536) % 4294967296) (by omega) (by omega) (by omega) (by omega) (by omega) (by omega)
  rw [e1]
  have e2 := bits_join .u32 32 (by decide) hk 16 ((((a : Int) % 4294967296) * 16777216) % 4294967296 + (((b : Int) % 4294967296) * 65536) % 4294967296) ((((c : Int) % 4294967296) * 256) % 4294967296) (by omega) (by omega) (by omega) (by omega) (by omega) (by omega)
  rw [e2]
  have e3 := bits_join .u32 32 (by decide) hk 8 ((((a : Int) % 4294967296) * 16777216) % 4294967296 + (((b : Int) % 4294967296) * 65536) % 4294967296 + (((c : Int) % 4294967296) * 256) % 4294967296) ((d : Int) % 4294967296) (by omega) (by omega) (by omega) (by omega) (by omega) (by omega)
  rw [e3]
  omega
theorem four_of {l : List Int} (hb : Byt l) (h4 : 4 ≤ l.length) : ∃ a b c d : Nat, ∃ r, a < 256 ∧ b < 256 ∧ c < 256 ∧ d < 256 ∧ l = (a : Int) :: (b : Int) :: (c : Int) :: (d : Int) :: r := by
  match l, h4, hb with
  | a :: b :: c :: d :: r, _, hb =>
    have ha := hb a (by simp)
    have hb' := hb b (by simp)
    have hc := hb c (by simp)
    have hd := hb d (by simp)
    exact ⟨a.toNat, b.toNat, c.toNat, d.toNat, r, by omega, by omega, by omega, by omega, by
      rw [Int.toNat_of_nonneg ha.1, Int.toNat_of_nonneg hb'.1, Int.toNat_of_nonneg hc.1, Int.toNat_of_nonneg hd.1]⟩
theorem get_calls (A : Option Addr) (c : Nat) (l : List Int) (w : World) (hC : CB w A l) (hc : l.length ≤ c) (hb : Byt l) (h4 : 4 ≤ l.length) :
    Calls Try.prog 73 #[.slice A l.length c] w fun e w' => e = .returned (.int .u32 (num4 l : Nat)) ∧ Drawn0 w w' := by
  refine PFrameAppend.frame_get.calls A c l _ w hC hc ?_
  obtain ⟨x, y, z, t, r, hx, hy, hz, ht, rfl⟩ := four_of hb h4
  have e := or4 x y z t hx hy hz ht
  unfold PFrameAppend.frame_get.f
  simp only [List.length_cons]
  rw [if_pos (by omega), if_pos (by omega), if_pos (by omega), if_pos (by omega)]
  simp only [rd, num4, List.getD_cons_zero, List.getD_cons_succ, Int.toNat_natCast, show Int.toNat 0 = 0 from rfl, show Int.toNat 1 = 1 from rfl, show Int.toNat 2 = 2 from rfl, show Int.toNat 3 = 3 from rfl]
  rw [e]
end Go.Proofs.Ytfaniohoplbdoaa.My
/- frame.Append. -/
namespace Go.Proofs.Ytfaniohoplbdoaa.My
open Go Go.RowKit Go.Proofs.YtfaniohoplbdoaaW.PrintWords Go.Proofs.YtfaniohoplbdoaaW.PrintLast Go.Proofs.YtfaniohoplbdoaaW.PrintMore
set_option linter.unusedVariables false
set_option linter.unusedSimpArgs false
theorem info5 : (Try.prog.info? 5).map (fun i => (i.zero, i.size, i.bytes)) = some (some (.int .u8 0), 1, 1) := by kernel_rfl

theorem fAppend_long (A : Option Addr) (c n : Nat) (A' : Option Addr) (c' m : Nat) (w : World) (h : 1048576 < m) (hm : m ≤ 9223372036854775807) :
    Calls Try.prog 21 #[.slice A n c, .slice A' m c'] w fun e w' => e = .returned (.tuple #[.slice none 0 0, .int .i64 5]) ∧ Drawn0 w w' := by
  go_enter Try.func21, Try.ntmps21
  go_wp2
  go_ret2
  exact ⟨rfl, Drawn0.refl w⟩

abbrev RB (w : World) (base : Nat) (v : Value) (l : List Int) : Prop := Kd.R (Kd.int .u8) 5 w base (fun _ => True) v l

theorem made_bts (m : Nat) : madeCells #[.int .u8 0] m = (bts (List.replicate m 0)).toArray := by
  apply Array.ext'
  apply List.ext_getElem
  · simp [nums, madeCells]
  · intro i h1 h2
    simp [nums, madeCells, Nat.mod_one]
theorem CB.src {w : World} {A : Option Addr} {l : List Int} (h : CB w A l) : 0 < (bts l).length → ∃ ad, A = some ad ∧ ∀ j v, (bts l)[j]? = some v → w.cell? (ad.add j) = some v := by
  intro hp
  have hp' : 0 < l.length := by simpa [nums] using hp
  obtain ⟨ad, e, _⟩ := Kd.at_int h 0 (by omega) (by omega)
  refine ⟨ad, e, fun j v hj => ?_⟩
  have hlt : j < l.length := by
    have := (List.getElem?_eq_some_iff.1 hj).1
    simpa [nums] using this
  obtain ⟨ad', e', h2⟩ := Kd.at_int h (j : Int) (by omega) (by omega)
  obtain rfl : ad = ad' := by
    rw [e] at e'
    injection e'
  rw [Int.toNat_natCast] at h2
  rw [h2]
  rw [← hj, rd_getD]
  simp [nums, List.getElem?_eq_getElem hlt, List.getD_eq_getElem?_getD]
theorem bts_one (l : List Int) : ∀ v ∈ bts l, v.oneCell' = true := by
  intro v hv
  obtain ⟨x, _, rfl⟩ := List.mem_map.1 hv
  rfl

/-- A part of a block, read as bytes. -/
theorem CB_of_blk {w : World} {g o : Nat} {cur : List Value} {m : List Int} (hg : Blk w g cur) (hm : m.length ≤ 9223372036854775807) (h : ∀ j (hj : j < m.length), cur[o + j]? = some (.int .u8 m[j])) : CB w (some ⟨g, o, none⟩) m := by
  refine Kd.C_of_reads (enc := Value.int .u8) (d := (0 : Int)) (h1 := fun _ => rfl) ⟨rfl, hm, fun _ => ⟨_, rfl, fun j hj => ?_⟩⟩
  rw [add_at, blk_cell hg]
  simp [h j hj, List.getD_eq_getElem?_getD, List.getElem?_eq_getElem hj]
theorem splice_mid {α : Type} (pre rest cs : List α) : splice (pre ++ rest) pre.length cs = pre ++ cs ++ rest.drop cs.length := by
  unfold splice
  rw [List.take_left' rfl, List.drop_append, List.append_assoc, List.drop_of_length_le (by omega), List.nil_append, show pre.length + cs.length - pre.length = cs.length from by omega]
theorem bts_app (l m : List Int) : bts (l ++ m) = bts l ++ bts m := nums_append _ _ _
theorem bts_len (l : List Int) : (bts l).length = l.length := nums_length _ _
/-- Bytes at a place, and others laid over what follows. -/
theorem splice_bts {cur rest : List Value} {l m : List Int} {o : Nat} (h : cur = bts l ++ rest) (ho : o = l.length) : splice cur o (bts m) = bts (l ++ m) ++ rest.drop m.length := by
  subst h
  have := splice_mid (bts l) rest (bts m)
  rw [nums_length, nums_length] at this
  rw [ho, this, bts_app]
theorem bts_at {l : List Int} {j : Nat} (hj : j < l.length) : (bts l)[j]? = some (.int .u8 l[j]) := by simp [nums, List.getElem?_eq_getElem hj]
/-- A whole block of bytes, as a row of the call's own. -/
theorem RB_of_blk {w : World} {g base : Nat} {l : List Int} (hg : Blk w g (bts l)) (hb : base ≤ g) (hm : l.length ≤ 9223372036854775807) : RB w base (.slice (some ⟨g, 0, none⟩) l.length l.length) l := by
  refine Kd.R_of_own (enc := Value.int .u8) (h1 := fun _ => rfl) ⟨by simp [encs], .inr ⟨g, l.length, _, rfl, hb, hg, Nat.le_refl _, by simpa [maxLen] using hm, by simp [nums], ?_⟩⟩ (fun _ _ => trivial)
  simp only [nums, encs, List.length_map, Nat.mul_one]
  exact List.take_of_length_le (by simp)

set_option maxHeartbeats 1000000 in
set_option maxRecDepth 100000 in
theorem fAppend_ok (A : Option Addr) (c : Nat) (l : List Int) (A' : Option Addr) (c' : Nat) (body : List Int) (w : World) (hC : CB w A l) (hc : l.length ≤ c) (hC' : CB w A' body) (hc' : body.length ≤ c') (hb : Byt body)
    (hlen : body.length ≤ 1048576) (hl : l.length ≤ 140737488355328) :
    Calls Try.prog 21 #[.slice A l.length c, .slice A' body.length c'] w fun e w' => ∃ v, e = .returned (.tuple #[v, .int .i64 0]) ∧ RB w' w.heap.size v (l ++ frameL body) ∧ Below w.heap.size w w' := by
  have hmk := print_make (P := Try.prog) 22 5 .u8 1 Try.underlying22 info5 (by decide) (l.length + 8 + body.length) (by omega)
  rw [show (((l.length + 8 + body.length : Nat) : Int)) = (l.length : Int) + 8 + (body.length : Int) from by omega, made_bts] at hmk
  have HC := Aside0.mk hC
  have HC' := Aside0.mk hC'
  have HB := Aside0.mk hb
  have HN := Aside0.mk (show (bts (List.replicate (l.length + 8 + body.length) 0)).length = l.length + 8 + body.length by simp [nums])
  generalize bts (List.replicate (l.length + 8 + body.length) 0) = cur0 at hmk HN
  clear hC hC' hb
  go_enter Try.func21, Try.ntmps21
  go_wp2_with (with_reducible refine wpList_copy_splice rfl (.tmp 18) (.tmp 19) 22 22 rfl 5 Try.underlying22 (by kernel_rfl) _ _ _ _ _ _ rfl rfl w.heap.size 0 cur0 5 ?g1 (bts l) ?g2 ?g3 ?g4 (bts_one l) w.heap.size w ?g6 (Nat.le_refl _) ?_)
  case g1 => exact heap_alloc_new w _
  case g2 => rw [show l.length.min (l.length + 8 + body.length) = l.length from Nat.min_eq_left (by omega)]; simp [nums]
  case g3 => exact fun hp => by first | exact ⟨rfl, CB.src (Kd.C_alloc HC.out _) hp⟩ | exact CB.src (Kd.C_alloc HC.out _) hp
  case g4 => rw [HN.out]; simp [nums]; omega
  case g6 => exact below_alloc (Below.refl _ _) _
  intro w1 hg1 hb1
  clear hmk
  have hgs : w.heap.size < w1.heap.size := blk_lt hg1.out
  have HB1 := Aside0.mk hb1
  have HS := Aside0.mk hb1.size
  have hr1 : splice cur0 0 (bts l) = bts l ++ cur0.drop l.length := splice_bts (l := []) (rest := cur0) rfl rfl
  have hd1 : (cur0.drop l.length).length = 8 + body.length := by rw [List.length_drop, HN.out]; omega
  have hg1' := hg1.out
  rw [hr1] at hg1'
  generalize cur0.drop l.length = r1 at hg1' hd1
  have HG1 := Aside0.mk hg1'
  have HD1 := Aside0.mk hd1
  clear hg1 hb1 hr1 hd1 hg1' HN
  go_wp2_with fail
  rw [show l.length + 8 + body.length - l.length = 8 + body.length from by omega]
  refine (put_calls w1 _ _ _ _ (bts l ++ r1) body.length (by omega) (by omega) (Nat.le_refl _) (by omega) HG1.out (by rw [List.length_append, bts_len, HD1.out]; omega)).mono ?_
  rintro e w2 ⟨rfl, hg2, hw2⟩
  rw [splice_bts (l := l) (rest := r1) rfl rfl] at hg2
  have hd2 : (r1.drop 4).length = 4 + body.length := by rw [List.length_drop, HD1.out]; omega
  rw [show (be4 body.length).length = 4 from rfl] at hg2
  generalize r1.drop 4 = r2 at hg2 hd2
  have HG2 := Aside0.mk hg2
  have HD2 := Aside0.mk hd2
  have HB2 := Aside0.mk (pw_below_grown HB1.out (some w.heap.size) HS.out hw2 (fun k hk => by injection hk with hk; omega))
  have hgs2 : w.heap.size < w2.heap.size := blk_lt hg2
  have HS2 := Aside0.mk (HB2.out.size)
  clear hg2 hw2 HG1 HB1 HS hgs HD1 hd2
  go_wp2_with fail
  refine start_ (n := 7) (S := fun _ => True) (ds := []) #[false, false, false, false, false, false, false] (by kernel_rfl) rfl rfl ?_ (fun hHeld => ?_)
  · trivial
  have q1 : ((4 : Int) ≤ 8 + (body.length : Int)) = True := eq_true (by omega)
  have q2 : (8 + body.length = 4) = False := eq_false (by omega)
  refine pure_ (i := 0) (N := some 30) (v := ?_) (a' := ?_) #[true, false, false, false, false, false, false] rfl rfl (by kernel_rfl) (fun _ _ _ h => h) (Or.inl ⟨by rfl, ?_⟩) ?_ ?_
  rotate_left
  · intro w'
    go_simp
    with_reducible rfl
  rotate_left
  · simp only [Act.put, List.setIfInBounds_toArray, List.set_cons_zero, List.set_cons_succ, i64_w, i32_w]
    rfl
  refine pure_ (i := 1) (N := some 31) (v := ?_) (a' := ?_) #[true, true, false, false, false, false, false] rfl rfl (by kernel_rfl) (fun _ _ _ h => h) (Or.inl ⟨by rfl, ?_⟩) ?_ ?_
  rotate_left
  · intro w'
    go_simp
    with_reducible rfl
  rotate_left
  · simp only [Act.put, List.setIfInBounds_toArray, List.set_cons_zero, List.set_cons_succ, i64_w, i32_w]
    rfl
  refine pure_ (i := 2) (N := some 32) (v := ?_) (a' := ?_) #[true, true, true, false, false, false, false] rfl rfl (by kernel_rfl) (fun _ _ _ h => h) (Or.inl ⟨by rfl, ?_⟩) ?_ ?_
  rotate_left
  · intro w'
    go_simp
    with_reducible rfl
  rotate_left
  · simp only [Act.put, List.setIfInBounds_toArray, List.set_cons_zero, List.set_cons_succ, i64_w, i32_w]
    rfl
  refine pure_ (i := 3) (N := some 33) (v := ?_) (a' := ?_) #[true, true, true, true, false, false, false] rfl rfl (by kernel_rfl) (fun _ _ _ h => h) (Or.inl ⟨by rfl, ?_⟩) ?_ ?_
  rotate_left
  · intro w'
    go_simp
    with_reducible rfl
  rotate_left
  · simp only [Act.put, List.setIfInBounds_toArray, List.set_cons_zero, List.set_cons_succ, i64_w, i32_w]
    rfl
  refine pure_ (i := 4) (N := some 34) (v := ?_) (a' := ?_) #[true, true, true, true, true, false, false] rfl rfl (by kernel_rfl) (fun _ _ _ h => h) (Or.inl ⟨by rfl, ?_⟩) ?_ ?_
  rotate_left
  · intro w'
    go_simp
    with_reducible rfl
  rotate_left
  · simp only [Act.put, List.setIfInBounds_toArray, List.set_cons_zero, List.set_cons_succ, i64_w, i32_w]
    rfl
  clear q1 q2
  refine one_ (i := 5) (N := some 35) #[true, true, true, true, true, true, false] rfl rfl (by kernel_rfl) (by decide) (fun K hK => ?_)
  refine goes_ Try.func71 (by kernel_rfl) rfl #[.slice (some ⟨w.heap.size, l.length, none⟩) 4 (8 + body.length), .slice A' body.length c'] (by rfl) rfl rfl (by (try simp only [List.map_toArray, List.map_cons, List.map_nil]); first | done | rfl) ?_
  have hC2 : CB w2.drew (some ⟨w.heap.size, l.length, none⟩) (be4 body.length) := Kd.C_drew (CB_of_blk HG2.out (by simp [be4]) (fun j hj => by
    rw [List.getElem?_append_left (by rw [bts_len, List.length_append]; omega), bts_app, List.getElem?_append_right (by rw [bts_len]; omega), bts_len, show l.length + j - l.length = j from by omega, bts_at hj]))
  refine (fsum_calls _ (8 + body.length) (be4 body.length) A' c' body w2.drew hC2 (by rw [be4_length]; omega) (be4_byt _) (Kd.C_drew (Kd.C_below HC'.out HB2.out)) hc' HB.out).mono ?_
  rintro e w3 ⟨rfl, n3, rfl⟩
  refine ⟨_, rfl, hK.out _ _ trivial (fun _ => ?_)⟩
  clear hK K hC2
  refine norm_ (a' := ?_) ?_ ?_
  rotate_left
  · show Act.put _ (some 35) _ = _
    simp only [Act.put, List.setIfInBounds_toArray, List.set_cons_zero, List.set_cons_succ, i64_w, i32_w]
    rfl
  refine one_ (i := 6) (N := some 36) #[true, true, true, true, true, true, true] rfl rfl (by kernel_rfl) (by decide) (fun K hK => ?_)
  refine goes_ Try.func70 (by kernel_rfl) rfl #[.slice (some ⟨w.heap.size, l.length + 4, none⟩) (8 + body.length - 4) (8 + body.length - 4), .int .u32 (sumL (be4 body.length ++ body) : Nat)] (by rfl) rfl rfl (by (try simp only [List.map_toArray, List.map_cons, List.map_nil]); first | done | rfl) ?_
  refine (put_calls (w2.drew.drewN n3) _ _ _ _ (bts (l ++ be4 body.length) ++ r2) (sumL (be4 body.length ++ body)) (sumL_lt _) (by omega) (Nat.le_refl _) (by omega) HG2.out (by rw [List.length_append, bts_len, HD2.out, List.length_append, be4_length]; omega)).mono ?_
  rintro e w4 ⟨rfl, hg4, hw4⟩
  refine ⟨_, rfl, hK.out _ _ trivial (fun _ => ?_)⟩
  clear hK K
  rw [splice_bts (l := l ++ be4 body.length) (rest := r2) rfl (by rw [List.length_append, be4_length])] at hg4
  rw [List.append_assoc, show be4 body.length ++ be4 (sumL (be4 body.length ++ body)) = headL body from rfl] at hg4
  have hd4 : (r2.drop 4).length = body.length := by rw [List.length_drop, HD2.out]; omega
  rw [be4_length] at hg4
  generalize r2.drop 4 = r4 at hg4 hd4
  have HG4 := Aside0.mk hg4
  have HD4 := Aside0.mk hd4
  have HB4 := Aside0.mk (pw_below_grown (pw_below_drewN (below_drew HB2.out) n3) (some w.heap.size) HS2.out hw4 (fun k hk => by injection hk with hk; omega))
  have hgs4 : w.heap.size < w4.heap.size := blk_lt hg4
  have HS4 := Aside0.mk (HB4.out.size)
  clear hg4 hw4 HG2 HB2 HS2 hgs2 HD2 hd4
  refine norm_ (a' := ?_) ?_ ?_
  rotate_left
  · show Act.put _ (some 36) _ = _
    simp only [Act.put, List.setIfInBounds_toArray, List.set_cons_zero, List.set_cons_succ, i64_w, i32_w]
    rfl
  refine done_ (by kernel_rfl) ?_
  rw [show 8 + body.length - 4 = 4 + body.length from by omega]
  obtain ⟨b, hb0, E0⟩ : ∃ b : Bool, (body = []) = (b = true) ∧ (b = true → body.length = 0) := ⟨decide (body = []), by simp, fun h => by simp at h; simp [h]⟩
  have E0 := Aside0.mk E0
  cases b
  all_goals
    go_wp2_with (with_reducible refine wpList_copy_splice rfl (.tmp 38) (.tmp 39) 22 22 rfl 5 Try.underlying22 (by kernel_rfl) _ _ _ _ _ _ rfl rfl w.heap.size (l.length + 8) (bts (l ++ headL body) ++ r4) 5 ?g1 (bts body) ?g2 ?g3 ?g4 (bts_one body) w.heap.size w HB4.out (Nat.le_refl _) ?_)
    case g1 => first | exact HG4.out | (have h := HG4.out; rw [Blk, Array.getElem?_eq_getElem hgs4] at h; exact Option.some.inj h)
    case g2 => first | exact (bts_len body).trans (Nat.min_eq_left (by omega)).symm | (rw [List.eq_nil_of_length_eq_zero (E0.out (by simp))]; rfl)
    case g3 => first | exact fun hp => ⟨rfl, CB.src (Kd.C_below HC'.out HB4.out) hp⟩ | exact fun hp => CB.src (Kd.C_below HC'.out HB4.out) hp | (rw [List.eq_nil_of_length_eq_zero (E0.out (by simp))]; rfl)
    case g4 => simp only [List.length_append, bts_len, headL_length, HD4.out]; omega
    intro w5 hg5 hb5
    have hg5' := hg5.out
    rw [splice_bts (l := l ++ headL body) (rest := r4) rfl (by rw [List.length_append, headL_length]), List.append_assoc l] at hg5'
    have hd5 : (r4.drop body.length) = [] := List.drop_of_length_le (by rw [HD4.out]; exact Nat.le_refl _)
    rw [hd5, List.append_nil] at hg5'
    have HG5 := Aside0.mk hg5'
    have HB5 := Aside0.mk hb5
    clear hg5 hg5' hb5 hd5 HG4 HD4 HB4 hgs4 HS4 hb0 E0
    go_wp2
    go_ret2
    have hn : (l ++ frameL body).length = l.length + 8 + body.length := by rw [List.length_append, frameL_length]; omega
    have := RB_of_blk (base := w.heap.size) (l := l ++ frameL body) HG5.out (Nat.le_refl _) (by omega)
    rw [hn] at this
    first | exact ⟨_, rfl, this, HB5.out⟩ | (rw [E0 (by simp), Nat.add_zero] at this; exact ⟨_, rfl, this, HB5.out⟩)
end Go.Proofs.Ytfaniohoplbdoaa.My
/- frame.Next and the reference's Next. -/
namespace Go.Proofs.Ytfaniohoplbdoaa.My
open Go Go.RowKit Go.Proofs.YtfaniohoplbdoaaW.PrintWords Go.Proofs.YtfaniohoplbdoaaW.PrintLast Go.Proofs.YtfaniohoplbdoaaW.PrintMore
set_option linter.unusedVariables false
set_option linter.unusedSimpArgs false

/-! ### slices of bytes that are read: cut -/
theorem cutB_from (A : Option Addr) (c : Nat) (l : List Int) (lo : Nat) (j : Int) (hj : j = (lo : Int)) (hc : l.length ≤ c) (h : lo ≤ l.length) :
    ∃ A', (∀ W : World, (Instr.slice 22 (.slice A l.length c) (some (.int .i64 j)) none none).run Try.prog W = .ok (.slice A' (l.drop lo).length (c - lo)) W) ∧ ∀ w, CB w A l → CB w A' (l.drop lo) := by
  subst hj
  obtain ⟨i0, hi0, _, hsz, _⟩ := info_parts info5
  have h1 := cut_from (P := Try.prog) 22 5 .i64 Try.underlying22 hi0 1 hsz A l.length c (lo : Int) (by omega) (by omega)
  rw [Int.toNat_natCast] at h1
  refine ⟨_, fun W => ?_, fun w hC => Kd.C_drop hC h hc⟩
  rw [h1 W, List.length_drop]
  rfl
theorem cutB_to (A : Option Addr) (c : Nat) (l : List Int) (hi : Nat) (j : Int) (hj : j = (hi : Int)) (hc : l.length ≤ c) (h : hi ≤ l.length) :
    (∀ W : World, (Instr.slice 22 (.slice A l.length c) none (some (.int .i64 j)) none).run Try.prog W = .ok (.slice A (l.take hi).length c) W) ∧ ∀ w, CB w A l → CB w A (l.take hi) := by
  subst hj
  obtain ⟨i0, hi0, _, hsz, _⟩ := info_parts info5
  have h1 := cut_to (P := Try.prog) 22 5 .i64 Try.underlying22 hi0 A l.length c (hi : Int) (by omega) (by omega) hc
  rw [Int.toNat_natCast] at h1
  refine ⟨fun W => ?_, fun w hC => Kd.C_take hC h⟩
  rw [h1 W, List.length_take, Nat.min_eq_left h]
theorem cutB_mid (A : Option Addr) (c : Nat) (l : List Int) (lo n : Nat) (j k : Int) (hj : j = (lo : Int)) (hk : k = ((lo + n : Nat) : Int)) (hc : l.length ≤ c) (h : lo + n ≤ l.length) :
    ∃ A', (∀ W : World, (Instr.slice 22 (.slice A l.length c) (some (.int .i64 j)) (some (.int .i64 k)) none).run Try.prog W = .ok (.slice A' ((l.drop lo).take n).length (c - lo)) W) ∧ ∀ w, CB w A l → CB w A' ((l.drop lo).take n) := by
  subst hj
  subst hk
  obtain ⟨i0, hi0, _, hsz, _⟩ := info_parts info5
  have h1 := cut_mid (P := Try.prog) 22 5 .i64 .i64 Try.underlying22 hi0 1 hsz A l.length c (lo : Int) ((lo + n : Nat) : Int) (by omega) (by omega) (by omega) hc
  rw [Int.toNat_natCast, Int.toNat_natCast] at h1
  refine ⟨_, fun W => ?_, fun w hC => Kd.C_take (Kd.C_drop hC (by omega) hc) (by rw [List.length_drop]; omega)⟩
  rw [h1 W, List.length_take, List.length_drop, show min n (l.length - lo) = lo + n - lo from by omega]
  rfl
theorem splice_whole {z m : List Int} (h : z.length ≤ m.length) : splice (bts z) 0 (bts m) = bts m := by
  unfold splice
  rw [List.take_zero, List.nil_append, List.drop_of_length_le (by rw [Nat.zero_add, bts_len, bts_len]; exact h), List.append_nil]
abbrev NextPost (w : World) (l : List Int) (at_ : Int) : Ending → World → Prop := fun e w' => ∃ v, e = .returned (.tuple #[v, .int .i64 (nextL l at_).2.1, .int .i64 (nextL l at_).2.2]) ∧ RB w' w.heap.size v (nextL l at_).1 ∧ Below w.heap.size w w'
theorem NextPost.err {w : World} {l : List Int} {at_ c : Int} (h : nextL l at_ = ([], 0, c)) (w' : World) (hw : Below w.heap.size w w') : NextPost w l at_ (.returned (.tuple #[.slice none 0 0, .int .i64 0, .int .i64 c])) w' := by
  unfold NextPost
  rw [h]
  exact ⟨_, rfl, Kd.R_nil _ _ _ _ _, hw⟩
theorem fNext_range (A : Option Addr) (c : Nat) (l : List Int) (at_ : Int) (w : World) (hm : l.length ≤ 9223372036854775807) (h : at_ < 0 ∨ (l.length : Int) < at_) :
    Calls Try.prog 26 #[.slice A l.length c, .int .i64 at_] w (NextPost w l at_) := by
  have hn : nextL l at_ = ([], 0, 6) := by unfold nextL; rw [if_pos h]
  have HN := Aside0.mk hn
  clear hn
  by_cases h0 : at_ < 0
  · go_enter Try.func26, Try.ntmps26
    go_wp2
    go_ret3
    exact NextPost.err HN.out _ (by repeat (first | exact Below.refl _ _ | apply pw_below_drewN | apply below_drew))
  · have h1 : (l.length : Int) < at_ := by omega
    clear h
    go_enter Try.func26, Try.ntmps26
    go_wp2
    go_ret3
    exact NextPost.err HN.out _ (by repeat (first | exact Below.refl _ _ | apply pw_below_drewN | apply below_drew))
set_option maxHeartbeats 1000000 in
set_option maxRecDepth 100000 in
theorem fNext_in (A : Option Addr) (c : Nat) (l : List Int) (k : Nat) (w : World) (hC : CB w A l) (hc : l.length ≤ c) (hb : Byt l) (hk : k ≤ l.length) :
    Calls Try.prog 26 #[.slice A l.length c, .int .i64 (k : Int)] w (NextPost w l (k : Int)) := by
  have hm := Kd.C_max hC
  have hn : nextL l (k : Int) = if (peek (l.drop k)).1 = 0 then ((peek (l.drop k)).2, (k : Int) + 8 + (num4 (l.drop k) : Int), 0) else ([], 0, (peek (l.drop k)).1) := by
    unfold nextL
    rw [if_neg (by omega), Int.toNat_natCast]
  have HN := Aside0.mk hn
  obtain ⟨A7, hcut, hC7⟩ := cutB_from A c l k k rfl hc hk
  have HC := Aside0.mk (hC7 w hC)
  have HB := Aside0.mk (hb.drop k)
  have hfc : (l.drop k).length ≤ c - k := by rw [List.length_drop]; omega
  have hfl : k + (l.drop k).length ≤ 9223372036854775807 := by rw [List.length_drop]; omega
  have hkl : ¬ (k : Int) < 0 := by omega
  clear hC7 hC hb hn
  generalize l.drop k = f at hcut HC HB hfc hfl HN
  by_cases h8 : f.length < 8
  · have hp : peek f = (2, []) := by unfold peek; rw [if_pos h8]
    have HP := Aside0.mk hp
    clear hp
    go_enter Try.func26, Try.ntmps26
    go_wp2
    go_ret3
    exact NextPost.err (by rw [HN.out, HP.out]; rfl) _ (by repeat (first | exact Below.refl _ _ | apply pw_below_drewN | apply below_drew))
  have HG := Aside0.mk (get_calls A7 (c - k) f w HC.out hfc HB.out (by omega))
  have hlt := num4_lt HB.out
  by_cases h20 : 1048576 < num4 f
  · have hp : peek f = (5, []) := by unfold peek; rw [if_neg h8, if_pos h20]
    have HP := Aside0.mk hp
    clear hp
    go_enter Try.func26, Try.ntmps26
    go_wp2_with (go_at_call 73; refine HG.out.mono ?_; rintro e w' ⟨rfl, n, rfl⟩)
    go_ret3
    exact NextPost.err (by rw [HN.out, HP.out]; rfl) _ (by repeat (first | exact Below.refl _ _ | apply pw_below_drewN | apply below_drew))
  by_cases hs : f.length - 8 < num4 f
  · have hp : peek f = (2, []) := by unfold peek; rw [if_neg h8, if_neg h20, if_pos hs]
    have HP := Aside0.mk hp
    clear hp
    go_enter Try.func26, Try.ntmps26
    go_wp2_with (go_at_call 73; refine HG.out.mono ?_; rintro e w' ⟨rfl, n, rfl⟩)
    go_ret3
    exact NextPost.err (by rw [HN.out, HP.out]; rfl) _ (by repeat (first | exact Below.refl _ _ | apply pw_below_drewN | apply below_drew))
  obtain ⟨A4, hcut4, hC4⟩ := cutB_from A7 (c - k) f 4 4 rfl hfc (by omega)
  obtain ⟨hcut5, hC5⟩ := cutB_to A7 (c - k) f 4 4 rfl hfc (by omega)
  obtain ⟨A6, hcut6, hC6⟩ := cutB_mid A7 (c - k) f 8 (num4 f) 8 (8 + (num4 f : Int)) rfl (by omega) hfc (by omega)
  obtain ⟨A8, hcut8, hC8⟩ := cutB_from A7 (c - k) f 8 8 rfl hfc (by omega)
  have HC4 := Aside0.mk (hC4 w HC.out)
  have HC5 := Aside0.mk (hC5 w HC.out)
  have HC6 := Aside0.mk (hC6 w HC.out)
  have HC8 := Aside0.mk (hC8 w HC.out)
  clear hC4 hC5 hC6 hC8
  have HL8 := Aside0.mk (show num4 f ≤ (f.drop 8).length by rw [List.length_drop]; omega)
  have HT := Aside0.mk (show ((f.drop 8).take (num4 f)).length = num4 f by rw [List.length_take, List.length_drop]; omega)
  have HP := Aside0.mk (show peek f = if num4 (f.drop 4) = sumL (f.take 4 ++ (f.drop 8).take (num4 f)) then (0, (f.drop 8).take (num4 f)) else (4, []) by unfold peek; rw [if_neg h8, if_neg h20, if_neg hs])
  have HG4 := Aside0.mk (fun w' (hw : Below w.heap.size w w') => get_calls A4 (c - k - 4) (f.drop 4) w' (Kd.C_below HC4.out hw) (by rw [List.length_drop]; omega) (HB.out.drop 4) (by rw [List.length_drop]; omega))
  have HS := Aside0.mk (fun w' (hw : Below w.heap.size w w') => fsum_calls A7 (c - k) (f.take 4) A6 (c - k - 8) ((f.drop 8).take (num4 f)) w' (Kd.C_below HC5.out hw) (by rw [List.length_take]; omega) (HB.out.take 4) (Kd.C_below HC6.out hw) (by rw [HT.out]; omega) ((HB.out.drop 8).take _))
  obtain ⟨m, hm6⟩ : ∃ m, m = (f.drop 8).take (num4 f) := ⟨_, rfl⟩
  rw [← hm6] at hcut6 HC6 HT HP HS
  have HM := Aside0.mk hm6
  clear hm6
  generalize f.drop 8 = f8 at hcut8 HC8 HL8 HM
  generalize f.drop 4 = f4 at hcut4 HC4 HG4 HP
  generalize f.take 4 = f5 at hcut5 HC5 HS HP
  go_enter Try.func26, Try.ntmps26
  go_wp2_with (go_at_call 73; refine HG.out.mono ?_; rintro e w' ⟨rfl, n, rfl⟩)
  clear HG
  refine start_ (n := 12) (S := fun _ => True) (ds := []) #[false, false, false, false, false, false, false, false, false, false, false, false] (by kernel_rfl) rfl rfl ?_ (fun hHeld => ?_)
  · trivial
  have hw8 : wrap64 (8 + (num4 f : Int)) = 8 + (num4 f : Int) := by unfold wrap64; omega
  refine pure_ (i := 0) (N := some 37) (v := ?_) (a' := ?_) #[true, false, false, false, false, false, false, false, false, false, false, false] rfl rfl (by kernel_rfl) (fun _ _ _ h => h) (Or.inl ⟨by rfl, ?_⟩) ?_ ?_
  rotate_left
  · intro w'
    go_simp
    with_reducible rfl
  rotate_left
  · simp only [Act.put, List.setIfInBounds_toArray, List.set_cons_zero, List.set_cons_succ, i64_w, i32_w]
    rfl
  refine pure_ (i := 1) (N := some 38) (v := ?_) (a' := ?_) #[true, true, false, false, false, false, false, false, false, false, false, false] rfl rfl (by kernel_rfl) (fun _ _ _ h => h) (Or.inl ⟨by rfl, ?_⟩) ?_ ?_
  rotate_left
  · intro w'
    go_simp
    with_reducible rfl
  rotate_left
  · simp only [Act.put, List.setIfInBounds_toArray, List.set_cons_zero, List.set_cons_succ, i64_w, i32_w]
    rfl
  refine pure_ (i := 3) (N := some 40) (v := ?_) (a' := ?_) #[true, true, false, true, false, false, false, false, false, false, false, false] rfl rfl (by kernel_rfl) (fun _ _ _ h => h) (Or.inl ⟨by rfl, ?_⟩) ?_ ?_
  rotate_left
  · intro w'
    go_simp
    with_reducible rfl
  rotate_left
  · simp only [Act.put, List.setIfInBounds_toArray, List.set_cons_zero, List.set_cons_succ, i64_w, i32_w]
    rfl
  refine pure_ (i := 4) (N := some 41) (v := ?_) (a' := ?_) #[true, true, false, true, true, false, false, false, false, false, false, false] rfl rfl (by kernel_rfl) (fun _ _ _ h => h) (Or.inl ⟨by rfl, ?_⟩) ?_ ?_
  rotate_left
  · intro w'
    go_simp
    with_reducible rfl
  rotate_left
  · simp only [Act.put, List.setIfInBounds_toArray, List.set_cons_zero, List.set_cons_succ, i64_w, i32_w]
    rfl
  refine pure_ (i := 5) (N := some 42) (v := ?_) (a' := ?_) #[true, true, false, true, true, true, false, false, false, false, false, false] rfl rfl (by kernel_rfl) (fun _ _ _ h => h) (Or.inl ⟨by rfl, ?_⟩) ?_ ?_
  rotate_left
  · intro w'
    go_simp
    with_reducible rfl
  rotate_left
  · simp only [Act.put, List.setIfInBounds_toArray, List.set_cons_zero, List.set_cons_succ, i64_w, i32_w]
    rfl
  refine pure_ (i := 6) (N := some 43) (v := ?_) (a' := ?_) #[true, true, false, true, true, true, true, false, false, false, false, false] rfl rfl (by kernel_rfl) (fun _ _ _ h => h) (Or.inl ⟨by rfl, ?_⟩) ?_ ?_
  rotate_left
  · intro w'
    go_simp
    with_reducible rfl
  rotate_left
  · simp only [Act.put, List.setIfInBounds_toArray, List.set_cons_zero, List.set_cons_succ, i64_w, i32_w]
    rfl
  refine pure_ (i := 7) (N := some 44) (v := ?_) (a' := ?_) #[true, true, false, true, true, true, true, true, false, false, false, false] rfl rfl (by kernel_rfl) (fun _ _ _ h => h) (Or.inl ⟨by rfl, ?_⟩) ?_ ?_
  rotate_left
  · intro w'
    go_simp
    with_reducible rfl
  rotate_left
  · simp only [Act.put, List.setIfInBounds_toArray, List.set_cons_zero, List.set_cons_succ, i64_w, i32_w]
    rfl
  refine pure_ (i := 8) (N := some 45) (v := ?_) (a' := ?_) #[true, true, false, true, true, true, true, true, true, false, false, false] rfl rfl (by kernel_rfl) (fun _ _ _ h => h) (Or.inl ⟨by rfl, ?_⟩) ?_ ?_
  rotate_left
  · intro w'
    go_simp
    with_reducible rfl
  rotate_left
  · simp only [Act.put, List.setIfInBounds_toArray, List.set_cons_zero, List.set_cons_succ, i64_w, i32_w]
    rfl
  refine one_ (i := 2) (N := some 39) #[true, true, true, true, true, true, true, true, true, false, false, false] rfl rfl (by kernel_rfl) (by decide) (fun K hK => ?_)
  refine goes_ Try.func73 (by kernel_rfl) rfl #[.slice A4 f4.length (c - k - 4)] (by rfl) rfl rfl (by (try simp only [List.map_toArray, List.map_cons, List.map_nil]); first | done | rfl) ?_
  refine (HG4.out _ (by repeat (first | exact Below.refl _ _ | apply pw_below_drewN | apply below_drew))).mono ?_
  rintro e w' ⟨rfl, n2, rfl⟩
  refine ⟨_, rfl, hK.out _ _ trivial (fun _ => ?_)⟩
  clear hK K hw8
  refine norm_ (a' := ?_) ?_ ?_
  rotate_left
  · show Act.put _ (some 39) _ = _
    simp only [Act.put, List.setIfInBounds_toArray, List.set_cons_zero, List.set_cons_succ, i64_w, i32_w]
    rfl
  refine one_ (i := 9) (N := some 46) #[true, true, true, true, true, true, true, true, true, true, false, false] rfl rfl (by kernel_rfl) (by decide) (fun K hK => ?_)
  refine goes_ Try.func71 (by kernel_rfl) rfl #[.slice A7 f5.length (c - k), .slice A6 m.length (c - k - 8)] (by rfl) rfl rfl (by (try simp only [List.map_toArray, List.map_cons, List.map_nil]); first | done | rfl) ?_
  refine (HS.out _ (by repeat (first | exact Below.refl _ _ | apply pw_below_drewN | apply below_drew))).mono ?_
  rintro e w' ⟨rfl, n3, rfl⟩
  refine ⟨_, rfl, hK.out _ _ trivial (fun _ => ?_)⟩
  clear hK K
  refine norm_ (a' := ?_) ?_ ?_
  rotate_left
  · show Act.put _ (some 46) _ = _
    simp only [Act.put, List.setIfInBounds_toArray, List.set_cons_zero, List.set_cons_succ, i64_w, i32_w]
    rfl
  refine pure_ (i := 10) (N := some 47) (v := ?_) (a' := ?_) #[true, true, true, true, true, true, true, true, true, true, true, false] rfl rfl (by kernel_rfl) (fun _ _ _ h => h) (Or.inl ⟨by rfl, ?_⟩) ?_ ?_
  rotate_left
  · intro w'
    go_simp
    with_reducible rfl
  rotate_left
  · simp only [Act.put, List.setIfInBounds_toArray, List.set_cons_zero, List.set_cons_succ, i64_w, i32_w]
    rfl
  refine pure_ (i := 11) (N := some 36) (v := ?_) (a' := ?_) #[true, true, true, true, true, true, true, true, true, true, true, true] rfl rfl (by kernel_rfl) (fun _ _ _ h => h) (Or.inl ⟨by rfl, ?_⟩) ?_ ?_
  rotate_left
  · intro w'
    go_simp
    with_reducible rfl
  rotate_left
  · simp only [Act.put, List.setIfInBounds_toArray, List.set_cons_zero, List.set_cons_succ, i64_w, i32_w]
    rfl
  refine done_ (by kernel_rfl) ?_
  have hmk := print_make (P := Try.prog) 22 5 .u8 1 Try.underlying22 info5 (by decide) (num4 f) (by omega)
  rw [made_bts] at hmk
  by_cases hq : num4 f4 = sumL (f5 ++ m)
  · have hb1 : ((num4 f4 : Int) != (sumL (f5 ++ m) : Int)) = false := by rw [hq]; simp
    have HQ := Aside0.mk hq
    clear hq
    go_wp2_with (with_reducible refine wpList_copy_splice rfl (.tmp 50) (.tmp 52) 22 22 rfl 5 Try.underlying22 (by kernel_rfl) _ _ _ _ _ _ rfl rfl w.heap.size 0 (bts (List.replicate (num4 f) 0)) 5 ?g1 (bts m) ?g2 ?g3 ?g4 (bts_one m) w.heap.size w ?g6 (Nat.le_refl _) ?_)
    case g1 => exact heap_alloc_new _ _
    case g2 => rw [bts_len, HT.out]; exact (Nat.min_eq_right HL8.out).symm
    case g3 =>
      have hsrc : 0 < (bts m).length → ∃ ad, A8 = some ad ∧ ∀ j v, (bts m)[j]? = some v → ((w.drewN (n + 1 + n2 + n3)).alloc (Obj.cells (bts (List.replicate (num4 f) 0)).toArray 5)).cell? (ad.add j) = some v := by
        have h1 := Kd.C_take HC8.out HL8.out
        rw [← HM.out] at h1
        exact CB.src (Kd.C_alloc (Kd.C_drewN h1 _) _)
      first | exact fun hp => ⟨rfl, hsrc hp⟩ | exact hsrc
    case g4 => rw [bts_len, bts_len, HT.out, List.length_replicate]; omega
    case g6 => exact below_alloc (pw_below_drewN (Below.refl _ _) _) _
    intro w5 hg5 hb5
    have hg5' := hg5.out
    rw [splice_whole (by rw [HT.out, List.length_replicate]; exact Nat.le_refl _)] at hg5'
    have hr := RB_of_blk (base := w.heap.size) (l := m) hg5' (Nat.le_refl _) (by rw [HT.out]; omega)
    rw [HT.out] at hr
    have HR := Aside0.mk hr
    have HB5 := Aside0.mk hb5
    have hpk : nextL l (k : Int) = (m, (k : Int) + 8 + (num4 f : Int), 0) := by rw [HN.out, HP.out, if_pos HQ.out]; rfl
    have HK := Aside0.mk hpk
    clear hg5 hg5' hb5 hr hpk hmk
    have hkw : ((num4 f : Nat) : Int) ≤ f.length - 8 := by omega
    go_wp2
    go_ret3
    unfold NextPost
    rw [HK.out]
    exact ⟨_, rfl, HR.out, HB5.out⟩
  · have hb1 : ((num4 f4 : Int) != (sumL (f5 ++ m) : Int)) = true := by simp; omega
    rw [if_neg hq] at HP
    clear hq
    go_wp2
    go_ret3
    exact NextPost.err (by rw [HN.out, HP.out]; rfl) _ (by repeat (first | exact Below.refl _ _ | apply pw_below_drewN | apply below_drew))
end Go.Proofs.Ytfaniohoplbdoaa.My
/- frame.Scan. -/
namespace Go.Proofs.Ytfaniohoplbdoaa.My
open Go Go.RowKit Go.Proofs.YtfaniohoplbdoaaW.PrintWords Go.Proofs.YtfaniohoplbdoaaW.PrintLast Go.Proofs.YtfaniohoplbdoaaW.PrintMore
set_option linter.unusedVariables false
set_option linter.unusedSimpArgs false
theorem info22 : (Try.prog.info? 22).map (fun i => (i.zero, i.size, i.bytes)) = some (some (.slice none 0 0), 1, 24) := by kernel_rfl
theorem fNext_calls (A : Option Addr) (c : Nat) (l : List Int) (at_ : Int) (w : World) (hC : CB w A l) (hc : l.length ≤ c) (hb : Byt l) :
    Calls Try.prog 26 #[.slice A l.length c, .int .i64 at_] w (NextPost w l at_) := by
  by_cases h : at_ < 0 ∨ (l.length : Int) < at_
  · exact fNext_range A c l at_ w (Kd.C_max hC) h
  · obtain ⟨k, rfl⟩ := Int.eq_ofNat_of_zero_le (show 0 ≤ at_ by omega)
    exact fNext_in A c l k w hC hc hb (by omega)
abbrev kB : Kd (List Int) := Kd.slice 5 (Kd.int .u8)
/-- A list of byte strings of the call's own. -/
abbrev RL (w : World) (base : Nat) (v : Value) (l : List (List Int)) : Prop := Kd.R kB 22 w base (fun _ => True) v l
abbrev ScanPost (w : World) (l : List Int) : Ending → World → Prop := fun e w' => ∃ v, e = .returned (.tuple #[v, .int .i64 ((scanL l).2 : Nat)]) ∧ RL w' w.heap.size v (scanL l).1 ∧ Below w.heap.size w w'
/-- What Next tells of a place in l, in Scan's words. -/
theorem next_scan {l : List Int} {k : Nat} (hk : k ≤ l.length) :
    (nextL l (k : Int) = ((peek (l.drop k)).2, ((k + (num4 (l.drop k) + 8) : Nat) : Int), 0) ∧ k + (num4 (l.drop k) + 8) ≤ l.length ∧ scanL (l.drop k) = ((peek (l.drop k)).2 :: (scanL (l.drop (k + (num4 (l.drop k) + 8)))).1, num4 (l.drop k) + 8 + (scanL (l.drop (k + (num4 (l.drop k) + 8)))).2)) ∨
    (∃ c, c ≠ 0 ∧ nextL l (k : Int) = ([], 0, c) ∧ scanL (l.drop k) = ([], 0)) := by
  have hn : nextL l (k : Int) = if (peek (l.drop k)).1 = 0 then ((peek (l.drop k)).2, (k : Int) + 8 + (num4 (l.drop k) : Int), 0) else ([], 0, (peek (l.drop k)).1) := by
    unfold nextL
    rw [if_neg (by omega), Int.toNat_natCast]
  by_cases h : (peek (l.drop k)).1 = 0
  · left
    have hs := scanL_step h
    have hl := (peek_ok h).2.2.1
    rw [List.drop_drop] at hs
    rw [List.length_drop] at hl
    refine ⟨?_, ?_, hs⟩
    · rw [hn, if_pos h]
      congr 2
      generalize num4 (l.drop k) = m
      omega
    · generalize num4 (l.drop k) = m at hl
      omega
  · right
    exact ⟨_, h, by rw [hn, if_neg h], scanL_stop h⟩
/-- Scan has come to the place k and has found acc. -/
def At (l : List Int) (k : Nat) (acc : List (List Int)) : Prop := scanL l = (acc ++ (scanL (l.drop k)).1, k + (scanL (l.drop k)).2) ∧ k ≤ l.length ∧ acc.length * 8 ≤ k
theorem At.zero (l : List Int) : At l 0 [] := ⟨by simp, by omega, by simp⟩
theorem At.next {l : List Int} {k : Nat} {acc : List (List Int)} (h : At l k acc) : (∃ k2 y, k < k2 ∧ At l k2 (acc ++ [y]) ∧ nextL l (k : Int) = (y, (k2 : Int), 0)) ∨ (∃ c, c ≠ 0 ∧ nextL l (k : Int) = ([], 0, c) ∧ scanL l = (acc, k)) := by
  obtain ⟨h1, h2, h3⟩ := h
  rcases next_scan h2 with ⟨hn, hk2, hs⟩ | ⟨c, hc, hn, hs⟩
  · refine .inl ⟨_, _, ?_, ⟨?_, hk2, ?_⟩, hn⟩
    · omega
    · rw [h1, hs]
      simp only [List.append_assoc, List.singleton_append, Prod.mk.injEq, true_and]
      omega
    · simp
      omega
  · exact .inr ⟨c, hc, hn, by rw [h1, hs]; simp⟩
/-- What is found has no more bytes than were read. -/
theorem calls_next {w : World} {A : Option Addr} {c : Nat} {l : List Int} {k : Int} {y : List Int} {n e0 : Int} (h : Calls Try.prog 26 #[.slice A l.length c, .int .i64 k] w (NextPost w l k)) (hn : nextL l k = (y, n, e0)) :
    Calls Try.prog 26 #[.slice A l.length c, .int .i64 k] w fun e w' => ∃ v, e = .returned (.tuple #[v, .int .i64 n, .int .i64 e0]) ∧ RB w' w.heap.size v y ∧ Below w.heap.size w w' := by
  unfold NextPost at h
  rw [hn] at h
  exact h
set_option maxHeartbeats 1000000 in
set_option maxRecDepth 100000 in
theorem fScan_calls (A : Option Addr) (c : Nat) (l : List Int) (w : World) (hC : CB w A l) (hc : l.length ≤ c) (hb : Byt l) (hl : l.length ≤ 1099511627776) :
    Calls Try.prog 28 #[.slice A l.length c] w (ScanPost w l) := by
  have HC := Aside0.mk hC
  have HB := Aside0.mk hb
  clear hC hb
  go_enter Try.func28, Try.ntmps28
  go_wp2
  go_loopw [4, 5] (fun v i wr => ∃ (k : Nat) (acc : List (List Int)), i = .int .i64 k ∧ Aside0 (At l k acc) ∧ Aside0 (RL wr w.heap.size v acc) ∧ Aside0 (Below w.heap.size w wr)) (fun _ i _ => l.length + 1 - (intOf i).toNat)
  case atStart => exact ⟨0, [], rfl, ⟨At.zero l⟩, ⟨Kd.R_nil _ _ _ _ _⟩, ⟨Below.refl _ _⟩⟩
  case round =>
    obtain ⟨k, acc, rfl, HA, HR, HW⟩ := hrel
    have hN := fNext_calls A c l (k : Int) wr (Kd.C_below HC.out HW.out) hc HB.out
    have HSz := Aside0.mk HW.out.size
    rcases HA.out.next with ⟨k2, y, hlt, ha2, hn⟩ | ⟨e0, he0, hn, hs⟩
    · have HN := Aside0.mk (calls_next hN hn)
      have HA2 := Aside0.mk ha2
      clear hn hN ha2
      go_wp2_with (first | (go_at_call 26; refine HN.out.mono ?_; rintro e w2 ⟨v2, rfl, hr2, hw2⟩; obtain ⟨A2, c2, rfl⟩ := Kd.R_slice hr2) | ((with_reducible refine gate_dst (N := 23) rfl ?_); refine Kd.R_append kB (w0 := w) w.heap.size rfl (.tmp 20) (.tmp 22) 38 22 (.slice none 0 0) 24 rfl Try.underlying38 info22 rfl (by decide) (by decide) _ acc y [.slice A2 y.length c2] (fun _ => True) (fun k => some k ≠ u4.ownBlock) rfl rfl ?hp (fun _ h => ⟨trivial, h⟩) (fun _ _ => trivial) ?hO ?hB ?hbase ?hl ?_))
      case hp => exact Kd.M_row (Kd.R_lower (Kd.R_mono (Kd.R_newR hr2 HR.out) (fun _ h => h.2)) HSz.out)
      case hO => exact Kd.R_below HR.out hw2
      case hB => exact below_then HW.out HSz.out hw2
      case hbase => exact Nat.le_trans HSz.out hw2.size
      case hl => have := HA.out.2; omega
      intro v3 w3 hr3 hw3 _ _
      have HR3 := Aside0.mk hr3
      have HW3 := Aside0.mk hw3
      clear hr3 hw3 hr2 hw2
      go_wp2
      go_roundw
      case rel => exact ⟨k2, _, rfl, HA2, HR3, HW3⟩
      case measure => simp [intOf]; have := HA2.out.2.1; omega
    · have HN := Aside0.mk (calls_next hN hn)
      have HS := Aside0.mk hs
      have hb0 : (e0 != 0) = true := by simpa using he0
      clear hn hN hs he0
      go_wp2_with (go_at_call 26; refine HN.out.mono ?_; rintro e w2 ⟨v2, rfl, hr2, hw2⟩)
      go_ret2
      refine ⟨_, by rw [HS.out]; rfl, ?_, ?_⟩
      · rw [HS.out]
        exact Kd.R_below HR.out hw2
      · exact below_then HW.out HSz.out hw2
end Go.Proofs.Ytfaniohoplbdoaa.My
/- The reference of layer 10: Append. -/
namespace Go.Proofs.Ytfaniohoplbdoaa.My
open Go Go.RowKit Go.Proofs.YtfaniohoplbdoaaW.PrintWords Go.Proofs.YtfaniohoplbdoaaW.PrintLast Go.Proofs.YtfaniohoplbdoaaW.PrintMore
set_option linter.unusedVariables false
set_option linter.unusedSimpArgs false
theorem four_calls (n : Nat) (hn : n < 4294967296) (w : World) : Calls Try.prog 72 #[.int .u32 (n : Int)] w fun e w' => ∃ v, e = .returned v ∧ RB w' w.heap.size v (be4 n) ∧ Below w.heap.size w w' := by
  refine PFrameAppend.bitemporalref10_four.calls (n : Int) (be4 n) w ?_
  unfold PFrameAppend.bitemporalref10_four.f be4
  rw [Int.tdiv_eq_ediv_of_nonneg (by omega), Int.tdiv_eq_ediv_of_nonneg (by omega), Int.tdiv_eq_ediv_of_nonneg (by omega), Int.tmod_eq_emod_of_nonneg (by omega)]
  simp only [Option.some.injEq, List.cons.injEq, and_true]
  omega
theorem rAppend_long (A : Option Addr) (c n : Nat) (A' : Option Addr) (c' m : Nat) (w : World) (h : 1048576 < m) (hm : m ≤ 9223372036854775807) :
    Calls Try.prog 22 #[.slice A n c, .slice A' m c'] w fun e w' => e = .returned (.tuple #[.slice none 0 0, .int .i64 5]) ∧ Drawn0 w w' := by
  go_enter Try.func22, Try.ntmps22
  go_wp2
  go_ret2
  exact ⟨rfl, Drawn0.refl w⟩
/-- An empty row that has just been made. -/
theorem RB_new (W : World) : RB (W.alloc (.cells #[] 5)) W.heap.size (.slice (some ⟨W.heap.size, 0, none⟩) 0 0) [] :=
  RB_of_blk (l := []) (heap_alloc_new W _) (Nat.le_refl _) (by simp)
/-- 'append(v, ys...)' on bytes. -/
theorem app_bts {ops : Array Oper} {rest : List Oper} {o : Oper} {a : Act} {Q : Exit → Act → World → Prop} {w0 W : World} (base : Nat) (hgd : o.guard = none) (s x : Operand)
    (ho : o.op = .call { callee := .builtin .append, args := #[s, x], argTypes := #[22, 22] }) (v : Value) (xs ys : List Int) (A : Option Addr) (c : Nat) (hs : a.eval s = v) (hx : a.eval x = .slice A ys.length c)
    (HO : RB W base v xs) (HR : CB W A ys) (HB : Below base w0 W) (hbase : base ≤ W.heap.size) (hl : xs.length + ys.length ≤ 140737488355328)
    (h : ∀ (zs : List Int) v1 w1, Aside0 (zs = xs ++ ys) → Aside0 (RB w1 base v1 zs) → Aside0 (Below base w0 w1) → wpList Try.prog ops Q rest (a.put o.dst v1) w1) : wpList Try.prog ops Q (o :: rest) a W :=
  Kd.R_append_rows (Kd.int .u8) base hgd s x 22 5 (.int .u8 0) 1 ho Try.underlying22 info5 rfl (by decide) (by decide) v xs ys A ys.length c (fun _ => True) (fun _ => False) hs hx HO HR (fun _ _ h => h) (fun _ h => h.elim) (fun _ _ => trivial) HB hbase (by omega)
    (fun v1 w1 h1 h2 _ _ => h _ v1 w1 ⟨rfl⟩ ⟨h1⟩ ⟨h2⟩)
set_option maxHeartbeats 400000 in
set_option maxRecDepth 100000 in
theorem rAppend_ok (A : Option Addr) (c : Nat) (l : List Int) (A' : Option Addr) (c' : Nat) (body : List Int) (w : World) (hC : CB w A l) (hc : l.length ≤ c) (hC' : CB w A' body) (hc' : body.length ≤ c') (hb : Byt body)
    (hlen : body.length ≤ 1048576) (hl : l.length ≤ 70368744177664) :
    Calls Try.prog 22 #[.slice A l.length c, .slice A' body.length c'] w fun e w' => ∃ v, e = .returned (.tuple #[v, .int .i64 0]) ∧ RB w' w.heap.size v (l ++ frameL body) ∧ Below w.heap.size w w' := by
  have HC := Aside0.mk hC
  have HC' := Aside0.mk hC'
  have HB := Aside0.mk hb
  have HF := Aside0.mk (four_calls body.length (by omega) w)
  clear hC hC' hb
  go_enter Try.func22, Try.ntmps22
  have hb4 := Aside0.mk (be4_length body.length)
  obtain ⟨b4, hb4e⟩ : ∃ b4, b4 = be4 body.length := ⟨_, rfl⟩
  rw [← hb4e] at HF hb4
  have HE := Aside0.mk hb4e
  clear hb4e
  go_wp2_with (first | (go_at_call 72; refine HF.out.mono ?_; rintro e w1 ⟨v6, rfl, hr6, hw1⟩; obtain ⟨A6, c6, rfl, hc6, hC6⟩ := Kd.R_reads hr6; have HR6 := Aside0.mk hC6; have HW1 := Aside0.mk hw1; clear HF hr6 hw1 hC6) | ((with_reducible refine gate_dst (N := 17) rfl ?_); refine app_bts (w0 := w1) w1.heap.size rfl (.tmp 15) (.tmp 16) rfl _ [] l A c rfl rfl (RB_new w1) (Kd.C_alloc (Kd.C_below HC.out HW1.out) _) (below_alloc (Below.refl _ _) _) (by simp) (by simp; omega) ?_; intro l17 v17 w2 E17 HR2 HW2) | ((with_reducible refine gate_dst (N := 19) rfl ?_); refine app_bts (w0 := w1) w1.heap.size rfl (.tmp 17) (.tmp 18) rfl _ l17 b4 A6 c6 rfl rfl HR2.out (Kd.C_below HR6.out HW2.out) HW2.out HW2.out.size (by rw [hb4.out, E17.out]; simp; omega) ?_; intro l19 v19 w3 E19 HR3 HW3) | ((with_reducible refine gate_dst (N := 23) rfl ?_); refine app_bts (w0 := w3) w3.heap.size rfl (.tmp 21) (.tmp 22) rfl _ [] b4 A6 c6 rfl rfl (RB_new w3) (Kd.C_alloc (Kd.C_below HR6.out HW3.out) _) (below_alloc (Below.refl _ _) _) (by simp) (by rw [hb4.out]; decide) ?_; intro l23 v23 w4 E23 HR4 HW4) | ((with_reducible refine gate_dst (N := 25) rfl ?_); refine app_bts (w0 := w3) w3.heap.size rfl (.tmp 23) (.tmp 24) rfl _ l23 body A' c' rfl rfl HR4.out (Kd.C_below HC'.out (below_then (below_then HW1.out HW1.out.size HW3.out) (Nat.le_trans HW1.out.size HW3.out.size) HW4.out)) HW4.out HW4.out.size (by rw [E23.out, List.nil_append, hb4.out]; omega) ?_; intro l25 v25 w5 E25 HR5 HW5; obtain ⟨A25, c25, rfl, hc25, hC25⟩ := Kd.R_reads HR5.out; have HC25 := Aside0.mk hC25; clear HR5 hC25 HR4 HW4) | (go_at_call 19; refine (rSum_calls A25 c25 l25 w5 HC25.out hc25 (by rw [E25.out, E23.out, List.nil_append, HE.out]; exact (be4_byt _).append HB.out)).mono ?_; rintro e w6 ⟨rfl, n6, rfl⟩) | (go_at_call 72; refine (four_calls (sumL l25) (sumL_lt _) _).mono ?_; rintro e w7 ⟨v27, rfl, hr7, hw7⟩; obtain ⟨b8, e8⟩ : ∃ b8, b8 = be4 (sumL l25) := ⟨_, rfl⟩; rw [← e8] at hr7; have E8 := Aside0.mk e8; clear e8; obtain ⟨A27, c27, rfl, hc27, hC27⟩ := Kd.R_reads hr7; have HC27 := Aside0.mk hC27; have HW7 := Aside0.mk (below_then (pw_below_drewN HW5.out n6) HW5.out.size hw7); clear hr7 hw7 hC27) | ((with_reducible refine gate_dst (N := 28) rfl ?_); refine app_bts (w0 := w1) w1.heap.size rfl (.tmp 20) (.tmp 27) rfl _ l19 b8 A27 c27 rfl rfl (Kd.R_below HR3.out HW7.out) HC27.out (below_then HW3.out HW3.out.size HW7.out) (Nat.le_trans HW3.out.size HW7.out.size) (by rw [E8.out, E19.out, E17.out]; simp only [List.nil_append, List.length_append, hb4.out, be4_length]; omega) ?_; intro l28 v28 w8 E28 HR8 HW8; clear HC27 HW7) | ((with_reducible refine gate_dst (N := 31) rfl ?_); refine app_bts (w0 := w1) w1.heap.size rfl (.tmp 29) (.tmp 30) rfl _ l28 body A' c' rfl rfl HR8.out (Kd.C_below HC'.out (below_then HW1.out HW1.out.size HW8.out)) HW8.out HW8.out.size (by rw [E28.out, E8.out, E19.out, E17.out]; simp only [List.nil_append, List.length_append, hb4.out, be4_length]; omega) ?_; intro l31 v31 w9 E31 HR9 HW9) | fail)
  go_ret2
  have he : l31 = l ++ frameL body := by
    rw [E31.out, E28.out, E8.out, E19.out, E17.out, E25.out, E23.out, HE.out]
    simp [frameL, headL]
  have hr := HR9.out
  rw [he] at hr
  exact ⟨_, rfl, Kd.R_lower hr HW1.out.size, below_then HW1.out HW1.out.size HW9.out⟩
end Go.Proofs.Ytfaniohoplbdoaa.My
/- The reference of layer 10: Next. -/
namespace Go.Proofs.Ytfaniohoplbdoaa.My
open Go Go.RowKit Go.Proofs.YtfaniohoplbdoaaW.PrintWords Go.Proofs.YtfaniohoplbdoaaW.PrintLast Go.Proofs.YtfaniohoplbdoaaW.PrintMore
set_option linter.unusedVariables false
set_option linter.unusedSimpArgs false
theorem app_bts_step {ops : Array Oper} {o : Oper} {a : Act} {Q : Exit → Act → World → Prop} {Kc : Act → World → Prop} {w0 W : World} (base : Nat) (hw : Region.wanted o (yielded ops a.tmps) = true) (s x : Operand)
    (ho : o.op = .call { callee := .builtin .append, args := #[s, x], argTypes := #[22, 22] }) (v : Value) (xs ys : List Int) (A : Option Addr) (c : Nat) (hs : a.eval s = v) (hx : a.eval x = .slice A ys.length c)
    (HO : RB W base v xs) (HR : CB W A ys) (HB : Below base w0 W) (hbase : base ≤ W.heap.size) (hl : xs.length + ys.length ≤ 140737488355328)
    (h : ∀ (zs : List Int) v1 w1, Aside0 (zs = xs ++ ys) → Aside0 (RB w1 base v1 zs) → Aside0 (Below base w0 w1) → Kc (a.put o.dst v1) w1) : if Region.wanted o (yielded ops a.tmps) = true then Oper.wp Try.prog o a W Kc Q else Kc (a.put o.dst undef) W :=
  Kd.R_append_rows_step (Kd.int .u8) base hw s x 22 5 (.int .u8 0) 1 ho Try.underlying22 info5 rfl (by decide) (by decide) v xs ys A ys.length c (fun _ => True) (fun _ => False) hs hx HO HR (fun _ _ h => h) (fun _ h => h.elim) (fun _ _ => trivial) HB hbase (by omega)
    (fun v1 w1 h1 h2 _ _ => h _ v1 w1 ⟨rfl⟩ ⟨h1⟩ ⟨h2⟩)
theorem lit_bts_step {ops : Array Oper} {o : Oper} {a : Act} {Q : Exit → Act → World → Prop} {Kc : Act → World → Prop} {W : World} (hw : Region.wanted o (yielded ops a.tmps) = true) (ho : o.op = .buildSlice 22 0 #[])
    (h : ∀ v1 w1, Aside0 (RB w1 W.heap.size v1 []) → Aside0 (Below W.heap.size W w1) → Kc (a.put o.dst v1) w1) : if Region.wanted o (yielded ops a.tmps) = true then Oper.wp Try.prog o a W Kc Q else Kc (a.put o.dst undef) W := by
  rw [if_pos hw]
  unfold Oper.wp execOp
  rw [ho]
  go_simp
  exact h _ _ ⟨RB_new W⟩ ⟨below_alloc (Below.refl _ _) _⟩
theorem number_calls (A : Option Addr) (c : Nat) (l : List Int) (w : World) (hC : CB w A l) (hc : l.length ≤ c) (hb : Byt l) (h4 : 4 ≤ l.length) :
    Calls Try.prog 74 #[.slice A l.length c] w fun e w' => e = .returned (.int .u32 (num4 l : Nat)) ∧ Drawn0 w w' := by
  refine PFrameNext.bitemporalref10_number.calls A c l _ w hC hc ?_
  obtain ⟨x, y, z, t, r, hx, hy, hz, ht, rfl⟩ := four_of hb h4
  unfold PFrameNext.bitemporalref10_number.f
  simp only [List.length_cons]
  rw [if_pos (by omega), if_pos (by omega), if_pos (by omega), if_pos (by omega)]
  simp only [rd, num4, List.getD_cons_zero, List.getD_cons_succ, Int.toNat_natCast, show Int.toNat 0 = 0 from rfl, show Int.toNat 1 = 1 from rfl, show Int.toNat 2 = 2 from rfl, show Int.toNat 3 = 3 from rfl]
  congr 1
  omega
theorem rNext_range (A : Option Addr) (c : Nat) (l : List Int) (at_ : Int) (w : World) (hm : l.length ≤ 9223372036854775807) (h : at_ < 0 ∨ (l.length : Int) < at_) :
    Calls Try.prog 27 #[.slice A l.length c, .int .i64 at_] w (NextPost w l at_) := by
  have hn : nextL l at_ = ([], 0, 6) := by unfold nextL; rw [if_pos h]
  have HN := Aside0.mk hn
  clear hn
  by_cases h0 : at_ < 0
  · go_enter Try.func27, Try.ntmps27
    go_wp2
    go_ret3
    exact NextPost.err HN.out _ (Below.refl _ _)
  · have h1 : (l.length : Int) < at_ := by omega
    clear h
    go_enter Try.func27, Try.ntmps27
    go_wp2
    go_ret3
    exact NextPost.err HN.out _ (Below.refl _ _)
set_option maxHeartbeats 1000000 in
set_option maxRecDepth 100000 in
theorem rNext_in (A : Option Addr) (c : Nat) (l : List Int) (k : Nat) (w : World) (hC : CB w A l) (hc : l.length ≤ c) (hb : Byt l) (hk : k ≤ l.length) :
    Calls Try.prog 27 #[.slice A l.length c, .int .i64 (k : Int)] w (NextPost w l (k : Int)) := by
  have hm := Kd.C_max hC
  have hn : nextL l (k : Int) = if (peek (l.drop k)).1 = 0 then ((peek (l.drop k)).2, (k : Int) + 8 + (num4 (l.drop k) : Int), 0) else ([], 0, (peek (l.drop k)).1) := by
    unfold nextL
    rw [if_neg (by omega), Int.toNat_natCast]
  have HN := Aside0.mk hn
  have HC := Aside0.mk hC
  have HB := Aside0.mk hb
  have hkl : ¬ (k : Int) < 0 := by omega
  clear hC hb hn
  by_cases h8 : l.length - k < 8
  · have hp : peek (l.drop k) = (2, []) := by unfold peek; rw [if_pos (by rw [List.length_drop]; exact h8)]
    have HP := Aside0.mk hp
    clear hp
    go_enter Try.func27, Try.ntmps27
    go_wp2
    go_ret3
    exact NextPost.err (by rw [HN.out, HP.out]; rfl) _ (Below.refl _ _)
  obtain ⟨A4, hcut4, hC4⟩ := cutB_mid A c l k 4 k ((k : Int) + 4) rfl (by omega) hc (by omega)
  have HC4 := Aside0.mk (hC4 w HC.out)
  have hlt := num4_lt (HB.out.drop k)
  have HG := Aside0.mk (number_calls A4 (c - k) ((l.drop k).take 4) w HC4.out (by rw [List.length_take]; omega) ((HB.out.drop k).take 4) (by rw [List.length_take, List.length_drop]; omega))
  rw [num4_take _ _ (by omega)] at HG
  obtain ⟨n, hn⟩ : ∃ n, n = num4 (l.drop k) := ⟨_, rfl⟩
  rw [← hn] at hlt HG HN
  have HNN := Aside0.mk hn
  clear hn hC4
  obtain ⟨f5, hf5⟩ : ∃ f5, f5 = (l.drop k).take 4 := ⟨_, rfl⟩
  rw [← hf5] at hcut4 HC4 HG
  have HF5 := Aside0.mk hf5
  clear hf5
  by_cases h20 : 1048576 < n
  · have hp : peek (l.drop k) = (5, []) := by unfold peek; rw [if_neg (by rw [List.length_drop]; omega), if_pos (by rw [← HNN.out]; exact h20)]
    have HP := Aside0.mk hp
    clear hp
    go_enter Try.func27, Try.ntmps27
    go_wp2_with (go_at_call 74; refine HG.out.mono ?_; rintro e w' ⟨rfl, m, rfl⟩)
    go_ret3
    exact NextPost.err (by rw [HN.out, HP.out]; rfl) _ (pw_below_drewN (Below.refl _ _) _)
  by_cases hs : l.length - k - 8 < n
  · have hp : peek (l.drop k) = (2, []) := by unfold peek; rw [if_neg (by rw [List.length_drop]; omega), if_neg (by rw [← HNN.out]; exact h20), if_pos (by rw [← HNN.out, List.length_drop]; exact hs)]
    have HP := Aside0.mk hp
    clear hp
    go_enter Try.func27, Try.ntmps27
    go_wp2_with (go_at_call 74; refine HG.out.mono ?_; rintro e w' ⟨rfl, m, rfl⟩)
    go_ret3
    exact NextPost.err (by rw [HN.out, HP.out]; rfl) _ (pw_below_drewN (Below.refl _ _) _)
  obtain ⟨A6, hcut6, hC6⟩ := cutB_mid A c l (k + 8) n ((k : Int) + 8) ((k : Int) + 8 + n) (by omega) (by omega) hc (by omega)
  obtain ⟨A7, hcut7, hC7⟩ := cutB_mid A c l (k + 4) 4 ((k : Int) + 4) ((k : Int) + 8) (by omega) (by omega) hc (by omega)
  have HC6 := Aside0.mk (hC6 w HC.out)
  have HC7 := Aside0.mk (hC7 w HC.out)
  clear hC6 hC7
  have hm6 : ((l.drop (k + 8)).take n).length = n := by rw [List.length_take, List.length_drop]; omega
  obtain ⟨m, hm6e⟩ : ∃ m, m = (l.drop (k + 8)).take n := ⟨_, rfl⟩
  obtain ⟨f7, hf7⟩ : ∃ f7, f7 = (l.drop (k + 4)).take 4 := ⟨_, rfl⟩
  have HG7 := Aside0.mk (fun w' (hw : Below w.heap.size w w') => number_calls A7 (c - (k + 4)) ((l.drop (k + 4)).take 4) w' (Kd.C_below HC7.out hw) (by rw [List.length_take]; omega) ((HB.out.drop _).take 4) (by rw [List.length_take, List.length_drop]; omega))
  rw [num4_take _ _ (by omega)] at HG7
  have HP := Aside0.mk (show peek (l.drop k) = if num4 (l.drop (k + 4)) = sumL (f5 ++ m) then (0, m) else (4, []) by
    unfold peek
    rw [if_neg (by rw [List.length_drop]; omega), ← HNN.out, if_neg h20, if_neg (by rw [List.length_drop]; omega), List.drop_drop, List.drop_drop, HF5.out, hm6e])
  have HB5 := Aside0.mk (show Byt f5 by rw [HF5.out]; exact (HB.out.drop k).take 4)
  have HBm := Aside0.mk (show Byt m by rw [hm6e]; exact (HB.out.drop _).take n)
  have HL5 := Aside0.mk (show f5.length = 4 by rw [HF5.out, List.length_take, List.length_drop]; omega)
  rw [← hm6e] at hcut6 HC6 hm6
  rw [← hf7] at hcut7 HC7 HG7
  have HL6 := Aside0.mk hm6
  generalize num4 (l.drop (k + 4)) = s7 at HP HG7
  clear hm6 hm6e hf7
  go_enter Try.func27, Try.ntmps27
  go_wp2_with (first | (go_at_call 74; refine HG.out.mono ?_; rintro e w' ⟨rfl, n1, rfl⟩; clear HG) | ((with_reducible refine gate_dst (N := 47) rfl ?_); refine app_bts (w0 := w) w.heap.size rfl (.tmp 38) (.tmp 46) rfl _ [] m A6 _ rfl rfl (Kd.R_lower (RB_new _) (by simp)) (Kd.C_alloc (Kd.C_drewN HC6.out n1) _) (below_alloc (pw_below_drewN (Below.refl _ _) n1) _) (by simp) (by rw [HL6.out]; simp; omega) ?_; intro l8 v8 w3 E8 HR8 HW8; obtain ⟨A8, c8, rfl⟩ := Kd.R_slice HR8.out) | fail)
  have hw4 : wrap64 ((k : Int) + 4) = (k : Int) + 4 := by unfold wrap64; omega
  have hw8 : wrap64 ((k : Int) + 8) = (k : Int) + 8 := by unfold wrap64; omega
  refine start_ (n := 18) (S := fun _ => True) (ds := []) #[false, false, false, false, false, false, false, false, false, false, false, false, false, false, false, false, false, false] (by kernel_rfl) rfl rfl ?_ (fun hHeld => ?_)
  · trivial
  refine pure_ (i := 1) (N := some 49) (v := ?_) (a' := ?_) #[false, true, false, false, false, false, false, false, false, false, false, false, false, false, false, false, false, false] rfl rfl (by kernel_rfl) (fun _ _ _ h => h) (Or.inl ⟨by rfl, ?_⟩) ?_ ?_
  rotate_left
  · intro w'
    go_simp
    with_reducible rfl
  rotate_left
  · simp only [Act.put, List.setIfInBounds_toArray, List.set_cons_zero, List.set_cons_succ, i64_w, i32_w]
    rfl
  refine pure_ (i := 2) (N := some 50) (v := ?_) (a' := ?_) #[false, true, true, false, false, false, false, false, false, false, false, false, false, false, false, false, false, false] rfl rfl (by kernel_rfl) (fun _ _ _ h => h) (Or.inl ⟨by rfl, ?_⟩) ?_ ?_
  rotate_left
  · intro w'
    go_simp
    with_reducible rfl
  rotate_left
  · simp only [Act.put, List.setIfInBounds_toArray, List.set_cons_zero, List.set_cons_succ, i64_w, i32_w]
    rfl
  refine pure_ (i := 3) (N := some 51) (v := ?_) (a' := ?_) #[false, true, true, true, false, false, false, false, false, false, false, false, false, false, false, false, false, false] rfl rfl (by kernel_rfl) (fun _ _ _ h => h) (Or.inl ⟨by rfl, ?_⟩) ?_ ?_
  rotate_left
  · intro w'
    go_simp
    with_reducible rfl
  rotate_left
  · simp only [Act.put, List.setIfInBounds_toArray, List.set_cons_zero, List.set_cons_succ, i64_w, i32_w]
    rfl
  refine pure_ (i := 4) (N := some 52) (v := ?_) (a' := ?_) #[false, true, true, true, true, false, false, false, false, false, false, false, false, false, false, false, false, false] rfl rfl (by kernel_rfl) (fun _ _ _ h => h) (Or.inl ⟨by rfl, ?_⟩) ?_ ?_
  rotate_left
  · intro w'
    go_simp
    with_reducible rfl
  rotate_left
  · simp only [Act.put, List.setIfInBounds_toArray, List.set_cons_zero, List.set_cons_succ, i64_w, i32_w]
    rfl
  refine pure_ (i := 5) (N := some 53) (v := ?_) (a' := ?_) #[false, true, true, true, true, true, false, false, false, false, false, false, false, false, false, false, false, false] rfl rfl (by kernel_rfl) (fun _ _ _ h => h) (Or.inl ⟨by rfl, ?_⟩) ?_ ?_
  rotate_left
  · intro w'
    go_simp
    with_reducible rfl
  rotate_left
  · simp only [Act.put, List.setIfInBounds_toArray, List.set_cons_zero, List.set_cons_succ, i64_w, i32_w]
    rfl
  refine pure_ (i := 7) (N := some 55) (v := ?_) (a' := ?_) #[false, true, true, true, true, true, false, true, false, false, false, false, false, false, false, false, false, false] rfl rfl (by kernel_rfl) (fun _ _ _ h => h) (Or.inl ⟨by rfl, ?_⟩) ?_ ?_
  rotate_left
  · intro w'
    go_simp
    with_reducible rfl
  rotate_left
  · simp only [Act.put, List.setIfInBounds_toArray, List.set_cons_zero, List.set_cons_succ, i64_w, i32_w]
    rfl
  refine pure_ (i := 10) (N := some 58) (v := ?_) (a' := ?_) #[false, true, true, true, true, true, false, true, false, false, true, false, false, false, false, false, false, false] rfl rfl (by kernel_rfl) (fun _ _ _ h => h) (Or.inl ⟨by rfl, ?_⟩) ?_ ?_
  rotate_left
  · intro w'
    go_simp
    with_reducible rfl
  rotate_left
  · simp only [Act.put, List.setIfInBounds_toArray, List.set_cons_zero, List.set_cons_succ, i64_w, i32_w]
    rfl
  refine pure_ (i := 11) (N := some 59) (v := ?_) (a' := ?_) #[false, true, true, true, true, true, false, true, false, false, true, true, false, false, false, false, false, false] rfl rfl (by kernel_rfl) (fun _ _ _ h => h) (Or.inl ⟨by rfl, ?_⟩) ?_ ?_
  rotate_left
  · intro w'
    go_simp
    with_reducible rfl
  rotate_left
  · simp only [Act.put, List.setIfInBounds_toArray, List.set_cons_zero, List.set_cons_succ, i64_w, i32_w]
    rfl
  refine pure_ (i := 12) (N := some 60) (v := ?_) (a' := ?_) #[false, true, true, true, true, true, false, true, false, false, true, true, true, false, false, false, false, false] rfl rfl (by kernel_rfl) (fun _ _ _ h => h) (Or.inl ⟨by rfl, ?_⟩) ?_ ?_
  rotate_left
  · intro w'
    go_simp
    with_reducible rfl
  rotate_left
  · simp only [Act.put, List.setIfInBounds_toArray, List.set_cons_zero, List.set_cons_succ, i64_w, i32_w]
    rfl
  refine pure_ (i := 13) (N := some 61) (v := ?_) (a' := ?_) #[false, true, true, true, true, true, false, true, false, false, true, true, true, true, false, false, false, false] rfl rfl (by kernel_rfl) (fun _ _ _ h => h) (Or.inl ⟨by rfl, ?_⟩) ?_ ?_
  rotate_left
  · intro w'
    go_simp
    with_reducible rfl
  rotate_left
  · simp only [Act.put, List.setIfInBounds_toArray, List.set_cons_zero, List.set_cons_succ, i64_w, i32_w]
    rfl
  refine pure_ (i := 14) (N := some 62) (v := ?_) (a' := ?_) #[false, true, true, true, true, true, false, true, false, false, true, true, true, true, true, false, false, false] rfl rfl (by kernel_rfl) (fun _ _ _ h => h) (Or.inl ⟨by rfl, ?_⟩) ?_ ?_
  rotate_left
  · intro w'
    go_simp
    with_reducible rfl
  rotate_left
  · simp only [Act.put, List.setIfInBounds_toArray, List.set_cons_zero, List.set_cons_succ, i64_w, i32_w]
    rfl
  refine pure_ (i := 15) (N := some 63) (v := ?_) (a' := ?_) #[false, true, true, true, true, true, false, true, false, false, true, true, true, true, true, true, false, false] rfl rfl (by kernel_rfl) (fun _ _ _ h => h) (Or.inl ⟨by rfl, ?_⟩) ?_ ?_
  rotate_left
  · intro w'
    go_simp
    with_reducible rfl
  rotate_left
  · simp only [Act.put, List.setIfInBounds_toArray, List.set_cons_zero, List.set_cons_succ, i64_w, i32_w]
    rfl
  clear hw4 hw8
  have HW9 := Aside0.mk (below_drew HW8.out)
  have HR9 := Aside0.mk (Kd.R_drew HR8.out)
  generalize w3.drew = w9 at HW9 HR9
  clear HW8 HR8
  refine one_ (i := 0) (N := some 48) #[true, true, true, true, true, true, false, true, false, false, true, true, true, true, true, true, false, false] rfl rfl (by kernel_rfl) (by decide) (fun K hK => ?_)
  refine lit_bts_step (by rfl) (by rfl) ?_
  intro v48 w4 HR48 HW48
  refine hK.out _ _ trivial (fun _ => ?_)
  clear hK K
  refine norm_ (a' := ?_) ?_ ?_
  rotate_left
  · show Act.put _ (some 48) _ = _
    simp only [Act.put, List.setIfInBounds_toArray, List.set_cons_zero, List.set_cons_succ, i64_w, i32_w]
    rfl
  have HW4 := Aside0.mk (below_then HW9.out HW9.out.size HW48.out)
  refine one_ (i := 6) (N := some 54) #[true, true, true, true, true, true, true, true, false, false, true, true, true, true, true, true, false, false] rfl rfl (by kernel_rfl) (by decide) (fun K hK => ?_)
  refine app_bts_step (w0 := w9) w9.heap.size (by rfl) (.tmp 48) (.tmp 53) (by rfl) v48 [] f5 A4 _ rfl rfl HR48.out (Kd.C_below HC4.out HW4.out) HW48.out HW48.out.size (by rw [HL5.out]; decide) ?_
  intro l54 v54 w5 E54 HR54 HW54
  refine hK.out _ _ trivial (fun _ => ?_)
  clear hK K HW4 HR48 HW48
  refine norm_ (a' := ?_) ?_ ?_
  rotate_left
  · show Act.put _ (some 54) _ = _
    simp only [Act.put, List.setIfInBounds_toArray, List.set_cons_zero, List.set_cons_succ, i64_w, i32_w]
    rfl
  have HC8 := Aside0.mk (Kd.R_reads' (Kd.R_below HR9.out HW54.out)).2.2
  refine one_ (i := 8) (N := some 56) #[true, true, true, true, true, true, true, true, true, false, true, true, true, true, true, true, false, false] rfl rfl (by kernel_rfl) (by decide) (fun K hK => ?_)
  refine app_bts_step (w0 := w9) w9.heap.size (by rfl) (.tmp 54) (.tmp 55) (by rfl) v54 l54 l8 A8 c8 rfl rfl HR54.out HC8.out HW54.out HW54.out.size (by rw [E54.out, E8.out, List.nil_append, List.nil_append, HL5.out, HL6.out]; omega) ?_
  intro l56 v56 w6 E56 HR56 HW56
  obtain ⟨A56, c56, rfl, hc56, hC56⟩ := Kd.R_reads HR56.out
  have HC56 := Aside0.mk hC56
  refine hK.out _ _ trivial (fun _ => ?_)
  clear hK K HR54 HW54 HC8 HR56 hC56
  refine norm_ (a' := ?_) ?_ ?_
  rotate_left
  · show Act.put _ (some 56) _ = _
    simp only [Act.put, List.setIfInBounds_toArray, List.set_cons_zero, List.set_cons_succ, i64_w, i32_w]
    rfl
  have HE56 := Aside0.mk (show l56 = f5 ++ m by rw [E56.out, E54.out, E8.out]; simp)
  clear E56 E54
  refine one_ (i := 9) (N := some 57) #[true, true, true, true, true, true, true, true, true, true, true, true, true, true, true, true, false, false] rfl rfl (by kernel_rfl) (by decide) (fun K hK => ?_)
  refine goes_ Try.func19 (by kernel_rfl) rfl #[.slice A56 l56.length c56] (by rfl) rfl rfl (by (try simp only [List.map_toArray, List.map_cons, List.map_nil]); first | done | rfl) ?_
  refine (rSum_calls A56 c56 l56 w6 HC56.out hc56 (by rw [HE56.out]; exact HB5.out.append HBm.out)).mono ?_
  rintro e w' ⟨rfl, n2, rfl⟩
  refine ⟨_, rfl, hK.out _ _ trivial (fun _ => ?_)⟩
  clear hK K HC56
  refine norm_ (a' := ?_) ?_ ?_
  rotate_left
  · show Act.put _ (some 57) _ = _
    simp only [Act.put, List.setIfInBounds_toArray, List.set_cons_zero, List.set_cons_succ, i64_w, i32_w]
    rfl
  have HW6 := Aside0.mk (below_then HW9.out HW9.out.size HW56.out)
  refine one_ (i := 16) (N := some 64) #[true, true, true, true, true, true, true, true, true, true, true, true, true, true, true, true, true, false] rfl rfl (by kernel_rfl) (by decide) (fun K hK => ?_)
  refine goes_ Try.func74 (by kernel_rfl) rfl #[.slice A7 f7.length (c - (k + 4))] (by rfl) rfl rfl (by (try simp only [List.map_toArray, List.map_cons, List.map_nil]); first | done | rfl) ?_
  refine (HG7.out _ (pw_below_drewN HW6.out n2)).mono ?_
  rintro e w' ⟨rfl, n3, rfl⟩
  refine ⟨_, rfl, hK.out _ _ trivial (fun _ => ?_)⟩
  clear hK K HG7
  refine norm_ (a' := ?_) ?_ ?_
  rotate_left
  · show Act.put _ (some 64) _ = _
    simp only [Act.put, List.setIfInBounds_toArray, List.set_cons_zero, List.set_cons_succ, i64_w, i32_w]
    rfl
  refine pure_ (i := 17) (N := some 65) (v := ?_) (a' := ?_) #[true, true, true, true, true, true, true, true, true, true, true, true, true, true, true, true, true, true] rfl rfl (by kernel_rfl) (fun _ _ _ h => h) (Or.inl ⟨by rfl, ?_⟩) ?_ ?_
  rotate_left
  · intro w'
    go_simp
    with_reducible rfl
  rotate_left
  · simp only [Act.put, List.setIfInBounds_toArray, List.set_cons_zero, List.set_cons_succ, i64_w, i32_w]
    rfl
  refine done_ (by kernel_rfl) ?_
  have HR7 := Aside0.mk (Kd.R_drewN (Kd.R_drewN (Kd.R_below HR9.out HW56.out) n2) n3)
  have HW7 := Aside0.mk (pw_below_drewN (pw_below_drewN HW6.out n2) n3)
  generalize ((w6.drewN n2).drewN n3) = w7 at HR7 HW7
  clear HW6 HR9 HW9 HW56
  rw [← HE56.out] at HP
  by_cases hq : s7 = sumL l56
  · have hb1 : ((sumL l56 : Int) != (s7 : Int)) = false := by rw [hq]; simp
    rw [if_pos hq] at HP
    have HL8 := Aside0.mk (show l8.length = n by rw [E8.out, List.nil_append, HL6.out])
    have hpk : nextL l (k : Int) = (l8, (k : Int) + 8 + (n : Int), 0) := by rw [HN.out, HP.out, E8.out]; rfl
    have HK := Aside0.mk hpk
    clear hq hpk
    go_wp2
    go_ret3
    unfold NextPost
    rw [HK.out]
    exact ⟨_, rfl, HR7.out, HW7.out⟩
  · have hb1 : ((sumL l56 : Int) != (s7 : Int)) = true := by simp; omega
    rw [if_neg hq] at HP
    clear hq
    go_wp2
    go_ret3
    exact NextPost.err (by rw [HN.out, HP.out]; rfl) _ HW7.out
end Go.Proofs.Ytfaniohoplbdoaa.My
/- The reference of layer 10: Scan; 'lists'. -/
namespace Go.Proofs.Ytfaniohoplbdoaa.My
open Go Go.RowKit Go.Proofs.YtfaniohoplbdoaaW.PrintWords Go.Proofs.YtfaniohoplbdoaaW.PrintLast Go.Proofs.YtfaniohoplbdoaaW.PrintMore
set_option linter.unusedVariables false
set_option linter.unusedSimpArgs false
theorem rNext_calls (A : Option Addr) (c : Nat) (l : List Int) (at_ : Int) (w : World) (hC : CB w A l) (hc : l.length ≤ c) (hb : Byt l) :
    Calls Try.prog 27 #[.slice A l.length c, .int .i64 at_] w (NextPost w l at_) := by
  by_cases h : at_ < 0 ∨ (l.length : Int) < at_
  · exact rNext_range A c l at_ w (Kd.C_max hC) h
  · obtain ⟨k, rfl⟩ := Int.eq_ofNat_of_zero_le (show 0 ≤ at_ by omega)
    exact rNext_in A c l k w hC hc hb (by omega)
theorem calls_rnext {w : World} {A : Option Addr} {c : Nat} {l : List Int} {k : Int} {y : List Int} {n e0 : Int} (h : Calls Try.prog 27 #[.slice A l.length c, .int .i64 k] w (NextPost w l k)) (hn : nextL l k = (y, n, e0)) :
    Calls Try.prog 27 #[.slice A l.length c, .int .i64 k] w fun e w' => ∃ v, e = .returned (.tuple #[v, .int .i64 n, .int .i64 e0]) ∧ RB w' w.heap.size v y ∧ Below w.heap.size w w' := by
  unfold NextPost at h
  rw [hn] at h
  exact h
set_option maxHeartbeats 1000000 in
set_option maxRecDepth 100000 in
theorem rScan_calls (A : Option Addr) (c : Nat) (l : List Int) (w : World) (hC : CB w A l) (hc : l.length ≤ c) (hb : Byt l) (hl : l.length ≤ 1099511627776) :
    Calls Try.prog 29 #[.slice A l.length c] w (ScanPost w l) := by
  have HC := Aside0.mk hC
  have HB := Aside0.mk hb
  clear hC hb
  go_enter Try.func29, Try.ntmps29
  go_wp2
  go_loopw [4, 5] (fun v i wr => ∃ (k : Nat) (acc : List (List Int)), i = .int .i64 k ∧ Aside0 (At l k acc) ∧ Aside0 (RL wr w.heap.size v acc) ∧ Aside0 (Below w.heap.size w wr)) (fun _ i _ => l.length + 1 - (intOf i).toNat)
  case atStart => exact ⟨0, [], rfl, ⟨At.zero l⟩, ⟨Kd.R_nil _ _ _ _ _⟩, ⟨Below.refl _ _⟩⟩
  case round =>
    obtain ⟨k, acc, rfl, HA, HR, HW⟩ := hrel
    have hN := rNext_calls A c l (k : Int) wr (Kd.C_below HC.out HW.out) hc HB.out
    have HSz := Aside0.mk HW.out.size
    rcases HA.out.next with ⟨k2, y, hlt, ha2, hn⟩ | ⟨e0, he0, hn, hs⟩
    · have HN := Aside0.mk (calls_rnext hN hn)
      have HA2 := Aside0.mk ha2
      clear hn hN ha2
      go_wp2_with (first | (go_at_call 27; refine HN.out.mono ?_; rintro e w2 ⟨v2, rfl, hr2, hw2⟩; obtain ⟨A2, c2, rfl⟩ := Kd.R_slice hr2) | ((with_reducible refine gate_dst (N := 23) rfl ?_); refine Kd.R_append kB (w0 := w) w.heap.size rfl (.tmp 20) (.tmp 22) 38 22 (.slice none 0 0) 24 rfl Try.underlying38 info22 rfl (by decide) (by decide) _ acc y [.slice A2 y.length c2] (fun _ => True) (fun k => some k ≠ u4.ownBlock) rfl rfl ?hp (fun _ h => ⟨trivial, h⟩) (fun _ _ => trivial) ?hO ?hB ?hbase ?hl ?_))
      case hp => exact Kd.M_row (Kd.R_lower (Kd.R_mono (Kd.R_newR hr2 HR.out) (fun _ h => h.2)) HSz.out)
      case hO => exact Kd.R_below HR.out hw2
      case hB => exact below_then HW.out HSz.out hw2
      case hbase => exact Nat.le_trans HSz.out hw2.size
      case hl => have := HA.out.2; omega
      intro v3 w3 hr3 hw3 _ _
      have HR3 := Aside0.mk hr3
      have HW3 := Aside0.mk hw3
      clear hr3 hw3 hr2 hw2
      go_wp2
      go_roundw
      case rel => exact ⟨k2, _, rfl, HA2, HR3, HW3⟩
      case measure => simp [intOf]; have := HA2.out.2.1; omega
    · have HN := Aside0.mk (calls_rnext hN hn)
      have HS := Aside0.mk hs
      have hb0 : (e0 != 0) = true := by simpa using he0
      clear hn hN hs he0
      go_wp2_with (go_at_call 27; refine HN.out.mono ?_; rintro e w2 ⟨v2, rfl, hr2, hw2⟩)
      go_ret2
      refine ⟨_, by rw [HS.out]; rfl, ?_, ?_⟩
      · rw [HS.out]
        exact Kd.R_below HR.out hw2
      · exact below_then HW.out HSz.out hw2
end Go.Proofs.Ytfaniohoplbdoaa.My
/- The chapter's examples ('works' of the statements on frames). -/
namespace Go.Proofs.Ytfaniohoplbdoaa.My
open Go Go.RowKit Go.Proofs.YtfaniohoplbdoaaW.PrintWords Go.Proofs.YtfaniohoplbdoaaW.PrintLast Go.Proofs.YtfaniohoplbdoaaW.PrintMore
set_option linter.unusedVariables false
set_option linter.unusedSimpArgs false
/-- Bytes in a block of whatever mark. -/
theorem CB_of_row {w : World} {g : Nat} {l : List Int} {fr : Nat × Nat} (hg : w.heap[g]? = some (.cells (bts l).toArray 5 fr)) (hm : l.length ≤ 9223372036854775807) : CB w (some ⟨g, 0, none⟩) l := by
  refine Kd.C_of_reads (enc := Value.int .u8) (d := (0 : Int)) (h1 := fun _ => rfl) ⟨rfl, hm, fun _ => ⟨_, rfl, fun j hj => ?_⟩⟩
  rw [add_plain, cell_of_row w g j _ 5 fr hg]
  simp [nums, hj, List.getD_eq_getElem?_getD]
/-- A literal of the call's own. -/
theorem RB_lit (W : World) (l : List Int) (hm : l.length ≤ 9223372036854775807) : RB (W.alloc (.cells (bts l).toArray 5)) W.heap.size (.slice (some ⟨W.heap.size, 0, none⟩) l.length l.length) l :=
  RB_of_blk (l := l) (heap_alloc_new W _) (Nat.le_refl _) hm
theorem below_alloc' {w W : World} {B : Nat} (h : Below B w W) (o : Obj) (hB : B ≤ W.heap.size) : Below B w (W.alloc o) := h.alloc hB o
def lenL (n : Int) : Int := if n < 0 ∨ 1048576 < n then 0 else n + 8
theorem len_f (n : Int) : PFrameAppend.frame_Len.f n = some (lenL n) := by
  unfold PFrameAppend.frame_Len.f lenL
  by_cases h1 : n < 0
  · rw [if_pos h1, if_pos (.inl h1)]
  · by_cases h2 : n > 1048576
    · rw [if_neg h1, if_pos h2, if_pos (.inr h2)]
    · rw [if_neg h1, if_neg h2, if_neg (by omega)]
      congr 1
      unfold wrap64
      omega
theorem len_calls (n : Int) (w : World) : Calls Try.prog 24 #[.int .i64 n] w fun e w' => e = .returned (.int .i64 (lenL n)) ∧ Drawn0 w w' := PFrameAppend.frame_Len.calls n _ w (len_f n)
theorem abc_bytes : Byt [97, 98, 99] := by intro x hx; simp at hx; omega
end Go.Proofs.Ytfaniohoplbdoaa.My
/- The statements on frames: the walks. -/
namespace Go.Proofs.Ytfaniohoplbdoaa.My
open Go Go.RowKit Go.Proofs.YtfaniohoplbdoaaW.PrintWords Go.Proofs.YtfaniohoplbdoaaW.PrintLast Go.Proofs.YtfaniohoplbdoaaW.PrintMore
set_option linter.unusedVariables false
set_option linter.unusedSimpArgs false
/-- A slice of integers that came in: nil, or a row of 'cap' cells. -/
def IsRow (k : IntKind) (w : World) (a : Option Addr) (len cap : Nat) (zs : List Int) : Prop :=
  (a = none ∧ len = 0 ∧ cap = 0 ∧ zs = []) ∨
  ∃ x, a = some x ∧ len ≤ cap ∧ cap ≤ maxLen ∧ zs.length = cap ∧ (∀ i, i < zs.length → w.cell? (x.add i) = some (.int k (zs.getD i 0))) ∧ ∀ n ∈ zs, (Lit.int k n).wf = true
theorem IsRow.bytes {w : World} {a : Option Addr} {len cap : Nat} {zs : List Int} (h : IsRow .u8 w a len cap zs) : ∃ l, l.length = len ∧ CB w a l ∧ l.length ≤ cap ∧ Byt l ∧ l = zs.take len := by
  rcases h with ⟨rfl, rfl, rfl, rfl⟩ | ⟨x, rfl, hl, hm, hz, hc, hw⟩
  · exact ⟨[], rfl, Kd.C_nil _ _, by simp, Byt.nil, rfl⟩
  · have hlen : (zs.take len).length = len := by rw [List.length_take]; omega
    refine ⟨zs.take len, hlen, ?_, by omega, ?_, rfl⟩
    · refine Kd.C_of_reads (enc := Value.int .u8) (d := (0 : Int)) (h1 := fun _ => rfl) ⟨rfl, by unfold maxLen at hm; omega, fun _ => ⟨_, rfl, fun j hj => ?_⟩⟩
      rw [hc j (by omega)]
      simp [List.getD_eq_getElem?_getD, List.getElem?_take, show j < len by omega]
    · intro n hn
      have := hw n (List.mem_of_mem_take hn)
      simp [Lit.wf, IntKind.min, IntKind.max, IntKind.signed, IntKind.bits] at this
      omega
abbrev LawPost (w : World) : Ending → World → Prop := fun e w' => e = .returned (.bool true) ∧ Below w.heap.size w w'
end Go.Proofs.Ytfaniohoplbdoaa.My
/- 'lists' on equal lists; the statement FrameScan, walked. -/
namespace Go.Proofs.Ytfaniohoplbdoaa.My
open Go Go.RowKit Go.Proofs.YtfaniohoplbdoaaW.PrintWords Go.Proofs.YtfaniohoplbdoaaW.PrintLast Go.Proofs.YtfaniohoplbdoaaW.PrintMore
set_option linter.unusedVariables false
set_option linter.unusedSimpArgs false
/-- A list of byte strings that is read. -/
abbrev CL (w : World) (A : Option Addr) (l : List (List Int)) : Prop := Kd.C kB w A l.length l
theorem CL.at_ {w : World} {A : Option Addr} {l : List (List Int)} (h : CL w A l) (j : Nat) (hj : j < l.length) :
    ∃ ad A' c', A = some ad ∧ w.cell? (ad.add j) = some (.slice A' l[j].length c') ∧ l[j].length ≤ c' ∧ CB w A' l[j] := by
  obtain ⟨ad, e, hc⟩ := h.2.2 (by omega)
  obtain ⟨cs, hlen, ⟨A', c', hcs, hl, hC⟩, hcell⟩ := hc j l[j] (List.getElem?_eq_getElem hj)
  subst hcs
  have := hcell 0 _ rfl
  rw [show j * Kd.sz kB + 0 = j from by show j * 1 + 0 = j; omega] at this
  exact ⟨ad, A', c', e, this, hl, hC⟩
set_option maxHeartbeats 1000000 in
theorem lists_true (A : Option Addr) (c : Nat) (A' : Option Addr) (c' : Nat) (l : List (List Int)) (w : World) (hC : CL w A l) (hC' : CL w A' l) :
    Calls Try.prog 30 #[.slice A l.length c, .slice A' l.length c'] w fun e w' => e = .returned (.bool true) ∧ Drawn0 w w' := by
  have hm := Kd.C_max hC
  have HC := Aside0.mk hC
  have HC' := Aside0.mk hC'
  clear hC hC'
  go_enter Try.func30, Try.ntmps30
  go_wp2
  go_loopw [13] (fun i wr => ∃ k : Nat, k ≤ l.length ∧ i = .int .i64 k ∧ Drawn0 w wr) (fun i _ => l.length - (intOf i).toNat)
  case atStart => exact ⟨0, by omega, rfl, Drawn0.refl w⟩
  case round =>
    obtain ⟨k, hk, rfl, n, rfl⟩ := hrel
    by_cases hlt : k < l.length
    · obtain ⟨ad, B, d, rfl, hcell, hd, hCB⟩ := CL.at_ (Kd.C_drewN HC.out (n + 1)) k hlt
      obtain ⟨ad', B', d', rfl, hcell', hd', hCB'⟩ := CL.at_ (Kd.C_drewN HC'.out (n + 1)) k hlt
      obtain ⟨y, hy⟩ : ∃ y, y = l[k] := ⟨_, rfl⟩
      rw [← hy] at hcell hcell' hCB hCB' hd hd'
      clear hy
      have hcv := Kd.C_string (P := Try.prog) (A := B) (c := d) Try.underlying22 Try.underlying5 Try.underlying9 hCB
      have hcv' := Kd.C_string (P := Try.prog) (A := B') (c := d') Try.underlying22 Try.underlying5 Try.underlying9 hCB'
      have hne : ((strOfNums y).toList != (strOfNums y).toList) = false := by simp
      go_wp2
      refine start_ (n := 11) (S := fun w' => w' = w.drewN (n + 1)) (ds := []) #[false, false, false, false, false, false, false, false, false, false, false] (by kernel_rfl) rfl rfl ?_ (fun hHeld => ?_)
      · rfl
      refine pure_ (i := 0) (N := some 16) (v := ?_) (a' := ?_) #[true, false, false, false, false, false, false, false, false, false, false] rfl rfl (by kernel_rfl) (fun _ _ _ h => h) (Or.inl ⟨by rfl, ?_⟩) ?_ ?_
      rotate_left
      · intro w'
        go_simp
        with_reducible rfl
      rotate_left
      · simp only [Act.put, List.setIfInBounds_toArray, List.set_cons_zero, List.set_cons_succ, i64_w, i32_w]
        rfl
      refine pure_ (i := 1) (N := some 17) (v := ?_) (a' := ?_) #[true, true, false, false, false, false, false, false, false, false, false] rfl rfl (by kernel_rfl) (fun _ _ _ h => h) (Or.inl ⟨by rfl, ?_⟩) ?_ ?_
      rotate_left
      · intro w'
        go_simp
        with_reducible rfl
      rotate_left
      · simp only [Act.put, List.setIfInBounds_toArray, List.set_cons_zero, List.set_cons_succ, i64_w, i32_w]
        rfl
      refine pure_ (i := 2) (N := some 18) (v := ?_) (a' := ?_) #[true, true, true, false, false, false, false, false, false, false, false] rfl rfl (by kernel_rfl) (fun _ _ _ h => h) (Or.inl ⟨by rfl, ?_⟩) ?_ ?_
      rotate_left
      · intro w'
        go_simp
        with_reducible rfl
      rotate_left
      · simp only [Act.put, List.setIfInBounds_toArray, List.set_cons_zero, List.set_cons_succ, i64_w, i32_w]
        rfl
      refine take_ (i := 3) (N := some 19) (v := ?_) (a' := ?_) #[true, true, true, true, false, false, false, false, false, false, false] rfl rfl (by kernel_rfl) (fun _ _ _ h => h) (Or.inl ⟨by rfl, ?_⟩) hHeld ?_ ?_
      rotate_left
      · rintro w' rfl
        go_simp
        with_reducible rfl
      rotate_left
      · simp only [Act.put, List.setIfInBounds_toArray, List.set_cons_zero, List.set_cons_succ, i64_w, i32_w]
        rfl
      refine take_ (i := 4) (N := some 20) (v := ?_) (a' := ?_) #[true, true, true, true, true, false, false, false, false, false, false] rfl rfl (by kernel_rfl) (fun _ _ _ h => h) (Or.inl ⟨by rfl, ?_⟩) hHeld ?_ ?_
      rotate_left
      · rintro w' rfl
        go_simp
        with_reducible rfl
      rotate_left
      · simp only [Act.put, List.setIfInBounds_toArray, List.set_cons_zero, List.set_cons_succ, i64_w, i32_w]
        rfl
      refine pure_ (i := 5) (N := some 21) (v := ?_) (a' := ?_) #[true, true, true, true, true, true, false, false, false, false, false] rfl rfl (by kernel_rfl) (fun _ _ _ h => h) (Or.inl ⟨by rfl, ?_⟩) ?_ ?_
      rotate_left
      · intro w'
        go_simp
        with_reducible rfl
      rotate_left
      · simp only [Act.put, List.setIfInBounds_toArray, List.set_cons_zero, List.set_cons_succ, i64_w, i32_w]
        rfl
      refine pure_ (i := 6) (N := some 22) (v := ?_) (a' := ?_) #[true, true, true, true, true, true, true, false, false, false, false] rfl rfl (by kernel_rfl) (fun _ _ _ h => h) (Or.inl ⟨by rfl, ?_⟩) ?_ ?_
      rotate_left
      · intro w'
        go_simp
        with_reducible rfl
      rotate_left
      · simp only [Act.put, List.setIfInBounds_toArray, List.set_cons_zero, List.set_cons_succ, i64_w, i32_w]
        rfl
      refine pure_ (i := 7) (N := some 23) (v := ?_) (a' := ?_) #[true, true, true, true, true, true, true, true, false, false, false] rfl rfl (by kernel_rfl) (fun _ _ _ h => h) (Or.inl ⟨by rfl, ?_⟩) ?_ ?_
      rotate_left
      · intro w'
        go_simp
        with_reducible rfl
      rotate_left
      · simp only [Act.put, List.setIfInBounds_toArray, List.set_cons_zero, List.set_cons_succ, i64_w, i32_w]
        rfl
      refine take_ (i := 8) (N := some 24) (v := ?_) (a' := ?_) #[true, true, true, true, true, true, true, true, true, false, false] rfl rfl (by kernel_rfl) (fun _ _ _ h => h) (Or.inl ⟨by rfl, ?_⟩) hHeld ?_ ?_
      rotate_left
      · rintro w' rfl
        go_simp
        with_reducible rfl
      rotate_left
      · simp only [Act.put, List.setIfInBounds_toArray, List.set_cons_zero, List.set_cons_succ, i64_w, i32_w]
        rfl
      refine take_ (i := 9) (N := some 25) (v := ?_) (a' := ?_) #[true, true, true, true, true, true, true, true, true, true, false] rfl rfl (by kernel_rfl) (fun _ _ _ h => h) (Or.inl ⟨by rfl, ?_⟩) hHeld ?_ ?_
      rotate_left
      · rintro w' rfl
        go_simp
        with_reducible rfl
      rotate_left
      · simp only [Act.put, List.setIfInBounds_toArray, List.set_cons_zero, List.set_cons_succ, i64_w, i32_w]
        rfl
      refine pure_ (i := 10) (N := some 26) (v := ?_) (a' := ?_) #[true, true, true, true, true, true, true, true, true, true, true] rfl rfl (by kernel_rfl) (fun _ _ _ h => h) (Or.inl ⟨by rfl, ?_⟩) ?_ ?_
      rotate_left
      · intro w'
        go_simp
        with_reducible rfl
      rotate_left
      · simp only [Act.put, List.setIfInBounds_toArray, List.set_cons_zero, List.set_cons_succ, i64_w, i32_w]
        rfl
      refine done_ (by kernel_rfl) ?_
      clear hcv hcv' hcell hcell'
      go_wp2
      go_roundw
      case rel => exact ⟨k + 1, by omega, by go_num, ⟨n + 1, hHeld⟩⟩
      case measure => simp [intOf]; omega
    · obtain rfl : k = l.length := by omega
      go_wp2
      go_ret
      exact ⟨rfl, ⟨_, rfl⟩⟩
theorem calls_scan {f : FuncId} {w : World} {A : Option Addr} {c : Nat} {l : List Int} {y : List (List Int)} {n : Nat} (h : Calls Try.prog f #[.slice A l.length c] w (ScanPost w l)) (hs : scanL l = (y, n)) :
    Calls Try.prog f #[.slice A l.length c] w fun e w' => ∃ v, e = .returned (.tuple #[v, .int .i64 (n : Int)]) ∧ RL w' w.heap.size v y ∧ Below w.heap.size w w' := by
  unfold ScanPost at h
  rw [hs] at h
  exact h
end Go.Proofs.Ytfaniohoplbdoaa.My
/- The statement FrameAppend, walked. -/
namespace Go.Proofs.Ytfaniohoplbdoaa.My
open Go Go.RowKit Go.Proofs.YtfaniohoplbdoaaW.PrintWords Go.Proofs.YtfaniohoplbdoaaW.PrintLast Go.Proofs.YtfaniohoplbdoaaW.PrintMore
set_option linter.unusedVariables false
set_option linter.unusedSimpArgs false
/-- 'max(0, min(cut, n))'. -/
theorem clamp (cut : Int) (n : Nat) : ∃ (m : Int) (k : Nat), k ≤ n ∧ (k : Int) = mx 0 (mn cut (n : Int)) ∧ (∀ ats ty, Builtin.min_ ats ty #[.int .i64 cut, .int .i64 (n : Int)] = pure (.int .i64 m)) ∧ (∀ ats ty, Builtin.max_ ats ty #[.int .i64 0, .int .i64 m] = pure (.int .i64 (k : Int))) := by
  refine ⟨mn cut n, (mx 0 (mn cut n)).toNat, by unfold mx mn; omega, by unfold mx mn; omega, fun ats ty => ?_, fun ats ty => ?_⟩
  · rw [min_two, min2_int]
    simp [mn]
  · rw [max_two, max2_int, Int.toNat_of_nonneg (by unfold mx; omega)]
    simp [mx]
end Go.Proofs.Ytfaniohoplbdoaa.My
/- 'large' and 'appended', walked. -/
namespace Go.Proofs.Ytfaniohoplbdoaa.My
open Go Go.RowKit Go.Proofs.YtfaniohoplbdoaaW.PrintWords Go.Proofs.YtfaniohoplbdoaaW.PrintLast Go.Proofs.YtfaniohoplbdoaaW.PrintMore
set_option linter.unusedVariables false
set_option linter.unusedSimpArgs false
/-- How many bytes a list has. -/
def tot (l : List (List Int)) : Nat := (l.map List.length).sum
theorem tot_append (l m : List (List Int)) : tot (l ++ m) = tot l + tot m := by simp [tot]
theorem tot_take_succ {l : List (List Int)} {k : Nat} (h : k < l.length) : tot (l.take (k + 1)) = tot (l.take k) + l[k].length := by
  rw [List.take_succ_eq_append_getElem h, tot_append]
  simp [tot]
theorem tot_take_le (l : List (List Int)) (k : Nat) : tot (l.take k) ≤ tot l := by
  have := tot_append (l.take k) (l.drop k)
  rw [List.take_append_drop] at this
  omega
def big (l : List (List Int)) : Bool := decide (20000 < l.length + tot l)
theorem framesL_length (l : List (List Int)) : (framesL l).length = 8 * l.length + tot l := by
  induction l with
  | nil => rfl
  | cons b l ih =>
    rw [framesL_cons, List.length_append, ih, frameL_length]
    simp [tot]
    omega
theorem framesL_take_succ {l : List (List Int)} {k : Nat} (h : k < l.length) : framesL (l.take (k + 1)) = framesL (l.take k) ++ frameL l[k] := by
  rw [List.take_succ_eq_append_getElem h, framesL_append]
  simp [framesL]
/-- The offset after each frame. -/
def endsL (l : List (List Int)) : List Int := (List.range l.length).map fun i => ((framesL (l.take (i + 1))).length : Int)
theorem endsL_length (l : List (List Int)) : (endsL l).length = l.length := by simp [endsL]
theorem endsL_get {l : List (List Int)} {k : Nat} (h : k < (endsL l).length) : (endsL l)[k] = ((framesL (l.take (k + 1))).length : Int) := by simp [endsL]
theorem endsL_take_succ {l : List (List Int)} {k : Nat} (h : k < l.length) : endsL (l.take (k + 1)) = endsL (l.take k) ++ [((framesL (l.take (k + 1))).length : Int)] := by
  have e : (l.take (k + 1)).length = k + 1 := by rw [List.length_take]; omega
  have e' : (l.take k).length = k := by rw [List.length_take]; omega
  unfold endsL
  rw [e, e', List.range_succ, List.map_append]
  congr 1
  · refine List.map_congr_left fun i hi => ?_
    have := List.mem_range.1 hi
    rw [List.take_take, List.take_take, Nat.min_eq_left (by omega), Nat.min_eq_left (by omega)]
  · simp [List.take_take]
theorem info3 : (Try.prog.info? 3).map (fun i => (i.zero, i.size, i.bytes)) = some (some (.int .i64 0), 1, 8) := by kernel_rfl
abbrev RI (w : World) (base : Nat) (v : Value) (l : List Int) : Prop := Kd.R (Kd.int .i64) 3 w base (fun _ => True) v l
abbrev CI (w : World) (A : Option Addr) (l : List Int) : Prop := Kd.C (Kd.int .i64) w A l.length l
theorem app_int {ops : Array Oper} {rest : List Oper} {o : Oper} {a : Act} {Q : Exit → Act → World → Prop} {w0 W : World} (base : Nat) (hgd : o.guard = none) (s x : Operand)
    (ho : o.op = .call { callee := .builtin .append, args := #[s, x], argTypes := #[64, 64] }) (v : Value) (xs : List Int) (p : Int) (hs : a.eval s = v) (hx : a.eval x = .slice (some ⟨W.heap.size, 0, none⟩) 1 1)
    (HO : RI W base v xs) (HB : Below base w0 W) (hbase : base ≤ W.heap.size) (hl : xs.length + 1 ≤ 1099511627776)
    (h : ∀ v1 w1, Aside0 (RI w1 base v1 (xs ++ [p])) → Aside0 (Below base w0 w1) → Aside0 (W.grownBy w1 v.ownBlock) → wpList Try.prog ops Q rest (a.put o.dst v1) w1) : wpList Try.prog ops Q (o :: rest) a (W.alloc (.cells #[.int .i64 p] 3)) :=
  Kd.R_append (Kd.int .i64) base hgd s x 64 3 (.int .i64 0) 8 ho Try.underlying64 info3 rfl (by decide) (by decide) v xs p [.int .i64 p] (fun _ => True) (fun _ => False) hs hx (by rfl) (fun _ h => h.elim) (fun _ _ => trivial) HO HB hbase (by omega)
    (fun v1 w1 h1 h2 h3 _ => h v1 w1 ⟨h1⟩ ⟨h2⟩ ⟨h3⟩)
/-- A row of bytes is none of numbers. -/
theorem RB_grown {w w1 : World} {base b : Nat} {v u : Value} {l y : List Int} (h : RB w base v l) (h' : RI w b u y) (hg : w.grownBy w1 u.ownBlock) : RB w1 base v l := by
  obtain ⟨inner, ho⟩ := Kd.R_own h'
  refine Kd.R_mono (Kd.R_grown (Kd.R_bound h) hg fun k hk he => ?_) (fun _ _ => trivial)
  obtain ⟨_, _, _, q, hq, cells, hc⟩ := hk
  obtain ⟨cells', hc'⟩ := own_typed ho k he.symm
  rw [hc] at hc'
  simp [Kd.int, Kd.scalar] at hq
  subst hq
  simp at hc'
end Go.Proofs.Ytfaniohoplbdoaa.My
/- The statement FrameBack, walked. -/
namespace Go.Proofs.Ytfaniohoplbdoaa.My
open Go Go.RowKit Go.Proofs.YtfaniohoplbdoaaW.PrintWords Go.Proofs.YtfaniohoplbdoaaW.PrintLast Go.Proofs.YtfaniohoplbdoaaW.PrintMore
set_option linter.unusedVariables false
set_option linter.unusedSimpArgs false
/-- How many bytes the first n frames have. -/
def FL (l : List (List Int)) (n : Nat) : Nat := (framesL (l.take n)).length
theorem FL_mono (l : List (List Int)) {m n : Nat} (h : m ≤ n) : FL l m ≤ FL l n := by
  unfold FL
  rw [framesL_length, framesL_length, List.length_take, List.length_take]
  have := tot_take_le (l.take n) m
  rw [List.take_take, Nat.min_eq_left h] at this
  omega
/-- Of the first j ends, m are not behind k. -/
def Whole (l : List (List Int)) (k j m : Nat) : Prop := m ≤ j ∧ FL l m ≤ k ∧ (m = j ∨ k < FL l (m + 1))
theorem Whole.zero (l : List (List Int)) (k : Nat) : Whole l k 0 0 := ⟨by omega, by simp [FL, framesL], .inl rfl⟩
theorem Whole.step {l : List (List Int)} {k j m : Nat} (h : Whole l k j m) : (FL l (j + 1) ≤ k ∧ m = j ∧ Whole l k (j + 1) (m + 1)) ∨ (k < FL l (j + 1) ∧ Whole l k (j + 1) m) := by
  obtain ⟨h1, h2, h3⟩ := h
  by_cases h4 : FL l (j + 1) ≤ k
  · left
    rcases h3 with rfl | h3
    · exact ⟨h4, rfl, by omega, h4, .inl rfl⟩
    · have := FL_mono l (show m + 1 ≤ j + 1 by omega)
      omega
  · right
    refine ⟨by omega, by omega, h2, ?_⟩
    rcases h3 with rfl | h3
    · exact .inr (by omega)
    · exact .inr h3
theorem Whole.scan {l : List (List Int)} {k m : Nat} (h : Whole l k l.length m) (hk : k ≤ (framesL l).length) (hb : ∀ b ∈ l, b.length ≤ 1048576) : scanL ((framesL l).take k) = (l.take m, FL l m) := by
  obtain ⟨h1, h2, h3⟩ := h
  by_cases hm : m = l.length
  · subst hm
    unfold FL at h2 ⊢
    rw [List.take_length] at h2 ⊢
    rw [List.take_of_length_le (by omega)]
    have := scanL_frames l [] hb
    rw [List.append_nil] at this
    rw [this, scanL_short (by simp)]
    simp
  · have hlt : m < l.length := by omega
    have h4 : k < FL l (m + 1) := by rcases h3 with h | h; exact absurd h hm; exact h
    unfold FL at h2 h4 ⊢
    rw [framesL_take_succ hlt, List.length_append, frameL_length] at h4
    have hd : framesL l = framesL (l.take m) ++ (frameL l[m] ++ framesL (l.drop (m + 1))) := by
      rw [← List.append_assoc, ← framesL_take_succ hlt, ← framesL_append, List.take_append_drop]
    rw [hd, List.take_append, List.take_of_length_le h2, List.take_append_of_le_length (by rw [frameL_length]; omega)]
    rw [scanL_frames (l.take m) _ (fun b hb' => hb b (List.mem_of_mem_take hb')), scanL_torn _ (hb _ (List.getElem_mem hlt)) _ (by omega)]
    simp
theorem framesL_byt {l : List (List Int)} (h : ∀ b ∈ l, Byt b) : Byt (framesL l) := by
  induction l with
  | nil => exact Byt.nil
  | cons b l ih => rw [framesL_cons]; exact (frameL_byt (h b List.mem_cons_self)).append (ih fun x hx => h x (List.mem_cons_of_mem _ hx))
theorem CI.at_ {w : World} {A : Option Addr} {l : List Int} (h : CI w A l) (j : Nat) (hj : j < l.length) : ∃ ad, A = some ad ∧ w.cell? (ad.add j) = some (.int .i64 l[j]) := by
  obtain ⟨ad, e, hc⟩ := h.2.2 (by omega)
  obtain ⟨cs, hlen, hK, hcell⟩ := hc j l[j] (List.getElem?_eq_getElem hj)
  have hK' : cs = [.int .i64 l[j]] := hK
  subst hK'
  have := hcell 0 _ rfl
  rw [show j * Kd.sz (Kd.int .i64) + 0 = j from by show j * 1 + 0 = j; omega] at this
  exact ⟨ad, e, this⟩
theorem info22' : (Try.prog.info? 22).map (fun i => (i.zero, i.size, i.bytes)) = some (some (.slice none 0 0), 1, 24) := by kernel_rfl
theorem cutL_to (A : Option Addr) (c : Nat) (l : List (List Int)) (hi : Nat) (j : Int) (hj : j = (hi : Int)) (hc : l.length ≤ c) (h : hi ≤ l.length) :
    (∀ W : World, (Instr.slice 38 (.slice A l.length c) none (some (.int .i64 j)) none).run Try.prog W = .ok (.slice A (l.take hi).length c) W) ∧ ∀ w, CL w A l → CL w A (l.take hi) := by
  subst hj
  obtain ⟨i0, hi0, _, hsz, _⟩ := info_parts info22'
  have h1 := cut_to (P := Try.prog) 38 22 .i64 Try.underlying38 hi0 A l.length c (hi : Int) (by omega) (by omega) hc
  rw [Int.toNat_natCast] at h1
  refine ⟨fun W => ?_, fun w hC => Kd.C_take hC h⟩
  rw [h1 W, List.length_take, Nat.min_eq_left h]
theorem scan_at {w : World} {A : Option Addr} {c : Nat} {b : List Int} {y : List (List Int)} {n : Nat} (hC : CB w A b) (hc : b.length ≤ c) (hb : Byt b) (hl : b.length ≤ 1099511627776) (hs : scanL b = (y, n)) :
    Calls Try.prog 28 #[.slice A b.length c] w fun e w' => ∃ v, e = .returned (.tuple #[v, .int .i64 (n : Int)]) ∧ RL w' w.heap.size v y ∧ Below w.heap.size w w' :=
  calls_scan (fScan_calls A c b w hC hc hb hl) hs
end Go.Proofs.Ytfaniohoplbdoaa.My
/- Lists of byte strings as arguments, opened. -/
namespace Go.Proofs.Ytfaniohoplbdoaa.My
open Go Go.RowKit Go.ChangeShapes Go.WideShapes Go.Proofs.YtfaniohoplbdoaaW.PrintWords Go.Proofs.YtfaniohoplbdoaaW.PrintLast Go.Proofs.YtfaniohoplbdoaaW.PrintMore
set_option linter.unusedVariables false
set_option linter.unusedSimpArgs false
theorem weights_all {H : Type} {P : Program} {e : TypeId} {n : Nat} {x : DataW H} (hn : n ∈ x.weights P e) : ∀ {l : List (DataW H)}, x ∈ l → n ∈ DataW.weightsAll P e l
  | y :: l, h => by
    simp only [DataW.weightsAll, List.mem_append]
    rcases List.mem_cons.1 h with rfl | h
    · exact .inl hn
    · exact .inr (weights_all hn h)
theorem bytes22 : Try.prog.bytesOf 22 = 24 := by kernel_rfl
theorem bytes5 : Try.prog.bytesOf 5 = 1 := by kernel_rfl
theorem cells22 : Try.prog.cellsOf 22 = 1 := by kernel_rfl
theorem cells5 : Try.prog.cellsOf 5 = 1 := by kernel_rfl
theorem lits_length {H : Type} (k : IntKind) (l : List Int) : (lits (H := H) k l).length = l.length := by simp [lits]
theorem open_rows {H : Type} {enc : TypeId × Value → H} {W : World} {base : Nat} {held : Bool} {a : Option Addr} {len cap : Nat} {d : DataW H} {ps : List MemPlace}
    (h : DataW.Trod enc Try.prog W base (fun _ => true) held 38 (.slice a len cap) d ps) (hw : ∀ n ∈ d.weights Try.prog 38, n ≤ reachBytes) :
    ∃ l : List (List Int), l.length = len ∧ CL W a l ∧ l.length ≤ cap ∧ (∀ b ∈ l, Byt b) ∧ l.length ≤ 140737488351232 ∧ ∀ b ∈ l, b.length ≤ 140737488351232 := by
  obtain ⟨fuel, hf⟩ := h
  rcases Go.Deep.open_int_rows Try.underlying38 Try.underlying22 Try.underlying5 cells22 cells5 hf with ⟨hcs, _⟩ | ⟨x, l, c, A, L, C, Z, hcs, _, hl, hm, hx, hr⟩
  · simp [Value.cells] at hcs
    obtain ⟨rfl, rfl, rfl⟩ := hcs
    exact ⟨[], rfl, Kd.C_nil _ _, by simp, by simp, by simp, by simp⟩
  · simp [Value.cells] at hcs
    obtain ⟨rfl, rfl, rfl⟩ := hcs
    obtain ⟨rfl, _⟩ := Prod.mk.inj hx
    have row : ∀ r, r < cap → IsRow .u8 W (A r) (L r) (C r) (Z r) := by
      intro r hrc
      obtain ⟨h1, h2, h3, h4, h5, h6, h7⟩ := hr r hrc
      cases hA : A r with
      | none =>
        have hc0 := h6 hA
        refine .inl ⟨rfl, by omega, hc0, ?_⟩
        exact List.length_eq_zero_iff.1 (by omega)
      | some a' =>
        refine .inr ⟨a', rfl, h2, h3, h4, fun i hi => ?_, h5⟩
        exact (h7 a' hA).2 i (by omega)
    have size : ∀ r, r < len → L r ≤ 140737488351232 := by
      intro r hrl
      cases hA : A r with
      | none =>
        obtain ⟨h1, h2, h3, h4, h5, h6, h7⟩ := hr r (by omega)
        have := h6 hA
        omega
      | some a' =>
        obtain ⟨h1, h2, h3, h4, h5, h6, h7⟩ := hr r (by omega)
        have hmem : Go.Deep.intRow (H := H) .u8 (A r) (L r) (Z r) ∈ (List.range len).map fun r => Go.Deep.intRow (H := H) .u8 (A r) (L r) (Z r) := List.mem_map.2 ⟨r, List.mem_range.2 hrl, rfl⟩
        have := hw ((((lits (H := H) .u8 ((Z r).take (L r))).length + (lits (H := H) .u8 ((Z r).drop (L r))).length)) * Try.prog.bytesOf 5) (by
          simp only [DataW.weights, Try.underlying38, List.mem_cons, List.mem_append]
          refine .inr (.inl (weights_all ?_ hmem))
          rw [hA]
          simp only [Go.Deep.intRow, DataW.weights, Try.underlying22, List.mem_cons, true_or])
        rw [lits_length, lits_length, bytes5, List.length_take, List.length_drop] at this
        unfold reachBytes at this
        omega
    have hsz : len ≤ 140737488351232 := by
      have := hw _ (by simp only [DataW.weights, Try.underlying38]; exact List.mem_cons_self)
      simp only [List.length_map, List.length_range, bytes22] at this
      unfold reachBytes at this
      omega
    have hlen : ((List.range len).map fun r => (Z r).take (L r)).length = len := by simp
    refine ⟨(List.range len).map fun r => (Z r).take (L r), hlen, ?_, by omega, ?_, by omega, ?_⟩
    · refine ⟨rfl, by omega, fun _ => ⟨x, rfl, fun j p hj => ?_⟩⟩
      rw [List.getElem?_map] at hj
      obtain ⟨r, hr1, rfl⟩ := Option.map_eq_some_iff.1 hj
      obtain ⟨hlt, hge⟩ := List.getElem?_eq_some_iff.1 hr1
      rw [List.length_range] at hlt
      have : r = j := by rw [← hge]; simp
      subst this
      obtain ⟨l', hl', hC, hc, hb, he⟩ := (row r (by omega)).bytes
      obtain ⟨h1, h2, _⟩ := hr r (by omega)
      rw [← he]
      refine ⟨[.slice (A r) l'.length (C r)], rfl, ⟨A r, C r, rfl, hc, hC⟩, fun i v hi => ?_⟩
      rcases i with _ | i
      · simp at hi
        subst hi
        show W.cell? (x.add (r * 1 + 0)) = _
        rw [Nat.mul_one, Nat.add_zero, h1, hl']
      · simp at hi
    · intro b hb
      obtain ⟨r, hr1, rfl⟩ := List.mem_map.1 hb
      have hlt := List.mem_range.1 hr1
      obtain ⟨l', hl', hC, hc, hb, he⟩ := (row r (by omega)).bytes
      rw [← he]
      exact hb
    · intro b hb
      obtain ⟨r, hr1, rfl⟩ := List.mem_map.1 hb
      have hlt := List.mem_range.1 hr1
      have := size r hlt
      rw [List.length_take]
      omega
/-- A row's list of byte strings, with its weights. -/
theorem open_rows_sized {H : Type} {enc : TypeId × Value → H} {W : World} {base : Nat} {held : Bool} {a : Option Addr} {len cap : Nat} {d : DataW H} {ps : List MemPlace} {ts : List TypeId} {ds : List (DataW H)} {j : Nat}
    (hsz : (DataW.weightsEach Try.prog ts ds).all (· ≤ reachBytes) = true) (ht : ts[j]? = some 38) (hd : ds[j]? = some d)
    (h : DataW.Trod enc Try.prog W base (fun _ => true) held 38 (.slice a len cap) d ps) :
    ∃ l : List (List Int), l.length = len ∧ CL W a l ∧ l.length ≤ cap ∧ (∀ b ∈ l, Byt b) ∧ l.length ≤ 140737488351232 ∧ ∀ b ∈ l, b.length ≤ 140737488351232 :=
  open_rows h fun n hn => by simpa using List.all_eq_true.1 hsz n (DataW.weights_mem_each ht hd n hn)
end Go.Proofs.Ytfaniohoplbdoaa.My
