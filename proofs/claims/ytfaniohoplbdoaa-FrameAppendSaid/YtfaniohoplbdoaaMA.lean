/- Plain facts on the checksum CRC-32C and on frames, over lists of bytes: no program in sight. -/
import Derived.Laws.BitsAllLaws
namespace Go.Proofs.Ytfaniohoplbdoaa.My
open Go

/-! ### the checksum -/
def lst (r : Nat) : Nat := if r % 2 = 1 then (r / 2) ^^^ 2197175160 else r / 2
def lstN : Nat → Nat → Nat
  | 0, r => r
  | n + 1, r => lstN n (lst r)
def crcB (r : Nat) (c : Nat) : Nat := lstN 8 (r ^^^ c)
def crcL (r : Nat) (l : List Int) : Nat := l.foldl (fun r c => crcB r c.toNat) r
def sumL (l : List Int) : Nat := 4294967295 - crcL 4294967295 l

/-- bytes -/
def Byt (l : List Int) : Prop := ∀ x ∈ l, 0 ≤ x ∧ x ≤ 255
theorem Byt.append {a b : List Int} (ha : Byt a) (hb : Byt b) : Byt (a ++ b) := fun x hx => (List.mem_append.1 hx).elim (ha x) (hb x)
theorem Byt.left {a b : List Int} (h : Byt (a ++ b)) : Byt a := fun x hx => h x (List.mem_append.2 (.inl hx))
theorem Byt.right {a b : List Int} (h : Byt (a ++ b)) : Byt b := fun x hx => h x (List.mem_append.2 (.inr hx))
theorem Byt.take {a : List Int} (h : Byt a) (n : Nat) : Byt (a.take n) := fun x hx => h x (List.mem_of_mem_take hx)
theorem Byt.drop {a : List Int} (h : Byt a) (n : Nat) : Byt (a.drop n) := fun x hx => h x (List.mem_of_mem_drop hx)
theorem Byt.nil : Byt [] := fun x hx => by simp at hx
theorem Byt.at_ {l : List Int} (h : Byt l) (i : Nat) (hi : i < l.length) : 0 ≤ l[i] ∧ l[i] ≤ 255 := h _ (List.getElem_mem hi)

theorem lst_lt {r : Nat} (h : r < 4294967296) : lst r < 4294967296 := by
  unfold lst
  split
  · have := Nat.xor_lt_two_pow (n := 32) (x := r / 2) (y := 2197175160) (by omega) (by omega)
    simpa using this
  · omega
theorem lstN_lt (n : Nat) : ∀ {r : Nat}, r < 4294967296 → lstN n r < 4294967296 := by
  induction n with
  | zero => exact fun h => h
  | succ n ih => exact fun h => ih (lst_lt h)
theorem xor_lt32 {a b : Nat} (ha : a < 4294967296) (hb : b < 4294967296) : a ^^^ b < 4294967296 := by
  have := Nat.xor_lt_two_pow (n := 32) (x := a) (y := b) (by simpa using ha) (by simpa using hb)
  simpa using this
theorem crcB_lt {r c : Nat} (h : r < 4294967296) (hc : c < 4294967296) : crcB r c < 4294967296 := lstN_lt 8 (xor_lt32 h hc)
theorem crcL_cons (r : Nat) (c : Int) (l : List Int) : crcL r (c :: l) = crcL (crcB r c.toNat) l := rfl
theorem crcL_append (r : Nat) (a b : List Int) : crcL r (a ++ b) = crcL (crcL r a) b := by simp [crcL, List.foldl_append]
theorem crcL_lt : ∀ {l : List Int} {r : Nat}, r < 4294967296 → Byt l → crcL r l < 4294967296
  | [], _, h, _ => h
  | c :: l, r, h, hb => by
    rw [crcL_cons]
    have := hb c List.mem_cons_self
    exact crcL_lt (crcB_lt h (by omega)) (fun x hx => hb x (List.mem_cons_of_mem _ hx))
theorem sumL_lt (l : List Int) : sumL l < 4294967296 := by unfold sumL; omega

/-! the register's turns can be undone: other bytes, other registers -/
theorem lst_inj {a b : Nat} (ha : a < 4294967296) (hb : b < 4294967296) (h : lst a = lst b) : a = b := by
  unfold lst at h
  have key : ∀ x y : Nat, x < 2147483648 → y < 2147483648 → x ^^^ 2197175160 = y → False := by
    intro x y hx hy hxy
    have h1 : (x ^^^ 2197175160).testBit 31 = true := by
      rw [Nat.testBit_xor, Nat.testBit_lt_two_pow (x := x) (i := 31) (by omega)]
      decide
    rw [hxy, Nat.testBit_lt_two_pow (x := y) (i := 31) (by omega)] at h1
    cases h1
  split at h <;> split at h
  · have : a / 2 = b / 2 := by
      have := congrArg (· ^^^ 2197175160) h
      simpa [Nat.xor_assoc] using this
    omega
  · exact (key _ _ (by omega) (by omega) h).elim
  · exact (key _ _ (by omega) (by omega) h.symm).elim
  · omega
theorem lstN_inj (n : Nat) : ∀ {a b : Nat}, a < 4294967296 → b < 4294967296 → lstN n a = lstN n b → a = b := by
  induction n with
  | zero => exact fun _ _ h => h
  | succ n ih => exact fun ha hb h => lst_inj ha hb (ih (lst_lt ha) (lst_lt hb) h)
theorem xor_left_inj {r c d : Nat} (h : r ^^^ c = r ^^^ d) : c = d := by
  have := congrArg (r ^^^ ·) h
  simpa [← Nat.xor_assoc] using this
theorem xor_right_inj {r s c : Nat} (h : r ^^^ c = s ^^^ c) : r = s := by
  have := congrArg (· ^^^ c) h
  simpa [Nat.xor_assoc] using this
theorem crcL_inj : ∀ {l : List Int} {a b : Nat}, Byt l → a < 4294967296 → b < 4294967296 → crcL a l = crcL b l → a = b
  | [], _, _, _, _, _, h => h
  | c :: l, a, b, hl, ha, hb, h => by
    have hc := hl c List.mem_cons_self
    have := crcL_inj (l := l) (fun x hx => hl x (List.mem_cons_of_mem _ hx)) (crcB_lt ha (by omega)) (crcB_lt hb (by omega)) h
    exact xor_right_inj (lstN_inj 8 (xor_lt32 ha (by omega)) (xor_lt32 hb (by omega)) this)
/-- One byte turned: another checksum. -/
theorem sumL_set {l : List Int} (hl : Byt l) (i : Nat) (hi : i < l.length) (x : Int) (hx : 0 ≤ x ∧ x ≤ 255) (hne : x ≠ l[i]) : sumL (l.set i x) ≠ sumL l := by
  have hs : l = l.take i ++ l[i] :: l.drop (i + 1) := by rw [List.getElem_cons_drop, List.take_append_drop]
  have hset : l.set i x = l.take i ++ x :: l.drop (i + 1) := List.set_eq_take_append_cons_drop .. |>.trans (by rw [if_pos hi])
  intro h
  unfold sumL at h
  have h1 : crcL 4294967295 (l.set i x) < 4294967296 := crcL_lt (by omega) (by
    rw [hset]
    exact (hl.take i).append (fun y hy => by
      rcases List.mem_cons.1 hy with rfl | hy
      · exact hx
      · exact hl.drop _ y hy))
  have h2 : crcL 4294967295 l < 4294967296 := crcL_lt (by omega) hl
  have h3 : crcL 4294967295 (l.set i x) = crcL 4294967295 l := by omega
  rw [hset] at h3
  conv at h3 => rhs; rw [hs]
  rw [crcL_append, crcL_append, crcL_cons, crcL_cons] at h3
  have hr : crcL 4294967295 (l.take i) < 4294967296 := crcL_lt (by omega) (hl.take i)
  have hy := hl.at_ i hi
  have h4 := crcL_inj (hl.drop _) (crcB_lt hr (by omega)) (crcB_lt hr (by omega)) h3
  have h5 := xor_left_inj (lstN_inj 8 (xor_lt32 hr (by omega)) (xor_lt32 hr (by omega)) h4)
  omega

/-! ### four bytes of a number, and back -/
def be4 (n : Nat) : List Int := [((n / 16777216 % 256 : Nat) : Int), ((n / 65536 % 256 : Nat) : Int), ((n / 256 % 256 : Nat) : Int), ((n % 256 : Nat) : Int)]
/-- (The factors stand first: the kernel would count up a numeral behind a product's sign.) -/
def num4 (l : List Int) : Nat := 16777216 * (l.getD 0 0).toNat + 65536 * (l.getD 1 0).toNat + 256 * (l.getD 2 0).toNat + (l.getD 3 0).toNat
theorem be4_length (n : Nat) : (be4 n).length = 4 := rfl
theorem be4_byt (n : Nat) : Byt (be4 n) := by
  intro x hx
  simp only [be4, List.mem_cons, List.not_mem_nil, or_false] at hx
  omega
theorem num4_be4 (n : Nat) (h : n < 4294967296) (l : List Int) : num4 (be4 n ++ l) = n := by
  simp only [num4, be4, List.cons_append, List.getD_cons_zero, List.getD_cons_succ, Int.toNat_natCast]
  omega
theorem num4_lt {l : List Int} (hl : Byt l) : num4 l < 4294967296 := by
  have : ∀ i, (l.getD i 0).toNat ≤ 255 := fun i => by
    rw [List.getD_eq_getElem?_getD]
    cases h : l[i]? with
    | none => simp
    | some x => have := hl x (List.mem_of_getElem? h); simp; omega
  have h0 := this 0
  have h1 := this 1
  have h2 := this 2
  have h3 := this 3
  unfold num4
  omega
theorem num4_take (l : List Int) (n : Nat) (hn : 4 ≤ n) : num4 (l.take n) = num4 l := by
  have : ∀ i, i < 4 → (l.take n).getD i 0 = l.getD i 0 := fun i hi => by
    rw [List.getD_eq_getElem?_getD, List.getD_eq_getElem?_getD, List.getElem?_take, if_pos (by omega)]
  unfold num4
  rw [this 0 (by omega), this 1 (by omega), this 2 (by omega), this 3 (by omega)]

/-! ### frames -/
def headL (body : List Int) : List Int := be4 body.length ++ be4 (sumL (be4 body.length ++ body))
def frameL (body : List Int) : List Int := headL body ++ body
theorem headL_length (b : List Int) : (headL b).length = 8 := rfl
theorem frameL_length (b : List Int) : (frameL b).length = b.length + 8 := by simp [frameL, headL_length]; omega
theorem frameL_byt {b : List Int} (h : Byt b) : Byt (frameL b) := ((be4_byt _).append (be4_byt _)).append h
/-- Next at the begin of f: an error's number, or the body's length. -/
def peek (f : List Int) : Int × List Int :=
  if f.length < 8 then (2, []) else if 1048576 < num4 f then (5, []) else if f.length - 8 < num4 f then (2, [])
  else if num4 (f.drop 4) = sumL (f.take 4 ++ (f.drop 8).take (num4 f)) then (0, (f.drop 8).take (num4 f)) else (4, [])
/-- Next: the body, the offset after it, the error. -/
def nextL (b : List Int) (at_ : Int) : List Int × Int × Int :=
  if at_ < 0 ∨ (b.length : Int) < at_ then ([], 0, 6)
  else if (peek (b.drop at_.toNat)).1 = 0 then ((peek (b.drop at_.toNat)).2, at_ + 8 + (num4 (b.drop at_.toNat) : Int), 0) else ([], 0, (peek (b.drop at_.toNat)).1)
theorem peek_err (f : List Int) : (peek f).1 = 0 ∨ (peek f).1 = 2 ∨ (peek f).1 = 4 ∨ (peek f).1 = 5 := by
  unfold peek
  split
  · simp
  split
  · simp
  split
  · simp
  split <;> simp
theorem peek_ok {f : List Int} (h : (peek f).1 = 0) : 8 ≤ f.length ∧ num4 f ≤ 1048576 ∧ num4 f + 8 ≤ f.length ∧ (peek f).2 = (f.drop 8).take (num4 f) ∧ num4 (f.drop 4) = sumL (f.take 4 ++ (f.drop 8).take (num4 f)) := by
  unfold peek at h ⊢
  by_cases h1 : f.length < 8
  · simp [h1] at h
  by_cases h2 : 1048576 < num4 f
  · simp [h1, h2] at h
  by_cases h3 : f.length - 8 < num4 f
  · simp [h1, h2, h3] at h
  by_cases h4 : num4 (f.drop 4) = sumL (f.take 4 ++ (f.drop 8).take (num4 f))
  · simp only [h1, h2, h3, if_false, if_pos h4]
    exact ⟨by omega, by omega, by omega, trivial, h4⟩
  · simp [h1, h2, h3, h4] at h
/-- the records at the begin of f, and the bytes that they take; at most n of them are looked for -/
def scanF : Nat → List Int → List (List Int) × Nat
  | 0, _ => ([], 0)
  | n + 1, f => if (peek f).1 = 0 then ((peek f).2 :: (scanF n (f.drop (num4 f + 8))).1, num4 f + 8 + (scanF n (f.drop (num4 f + 8))).2) else ([], 0)
def scanL (b : List Int) : List (List Int) × Nat := scanF (b.length + 1) b
theorem peek_none {f : List Int} (h : f.length < 8) : (peek f).1 = 2 := by simp [peek, h]
theorem scanF_more : ∀ (n m : Nat) (f : List Int), f.length < n → f.length < m → scanF n f = scanF m f
  | 0, _, _, h, _ => by omega
  | _ + 1, 0, _, _, h => by omega
  | n + 1, m + 1, f, hn, hm => by
    unfold scanF
    by_cases h : (peek f).1 = 0
    · have := (peek_ok h).2.2.1
      rw [if_pos h, if_pos h, scanF_more n m (f.drop (num4 f + 8)) (by simp; omega) (by simp; omega)]
    · rw [if_neg h, if_neg h]
theorem scanL_step {f : List Int} (h : (peek f).1 = 0) : scanL f = ((peek f).2 :: (scanL (f.drop (num4 f + 8))).1, num4 f + 8 + (scanL (f.drop (num4 f + 8))).2) := by
  have hl := (peek_ok h).2.2.1
  unfold scanL
  rw [show scanF (f.length + 1) f = _ from rfl, scanF, if_pos h, scanF_more f.length ((f.drop (num4 f + 8)).length + 1) _ (by simp; omega) (by omega)]
theorem scanL_stop {f : List Int} (h : (peek f).1 ≠ 0) : scanL f = ([], 0) := by
  unfold scanL
  rw [scanF, if_neg h]
theorem scanL_le0 (f : List Int) (h : ¬ (peek f).1 = 0) : (scanL f).2 ≤ f.length ∧ (scanL f).1.length * 8 ≤ f.length := by
  rw [scanL_stop h]
  simp
theorem scanL_le1 (n : Nat) (ih : ∀ f : List Int, f.length ≤ n → (scanL f).2 ≤ f.length ∧ (scanL f).1.length * 8 ≤ f.length) (f : List Int) (hn : f.length ≤ n + 1) (h : (peek f).1 = 0) : (scanL f).2 ≤ f.length ∧ (scanL f).1.length * 8 ≤ f.length := by
  have hl := (peek_ok h).2.2.1
  have h1 := ih (f.drop (num4 f + 8)) (by rw [List.length_drop]; generalize num4 f = m at hl; omega)
  rw [scanL_step h]
  rw [List.length_drop] at h1
  revert hl h1
  generalize num4 f = m
  generalize scanL (f.drop (m + 8)) = p
  obtain ⟨p1, p2⟩ := p
  intro hl h1
  simp only [List.length_cons] at h1 ⊢
  omega
theorem scanL_le (n : Nat) : ∀ f : List Int, f.length ≤ n → (scanL f).2 ≤ f.length ∧ (scanL f).1.length * 8 ≤ f.length := by
  induction n with
  | zero => exact fun f hn => scanL_le0 f (by rw [peek_none (by omega)]; decide)
  | succ n ih =>
    intro f hn
    by_cases h : (peek f).1 = 0
    · exact scanL_le1 n ih f hn h
    · exact scanL_le0 f h
theorem peek_frame (body : List Int) (hb : body.length ≤ 1048576) (rest : List Int) : peek (frameL body ++ rest) = (0, body) ∧ num4 (frameL body ++ rest) = body.length := by
  have hn : num4 (frameL body ++ rest) = body.length := by
    unfold frameL headL
    simp only [List.append_assoc]
    exact num4_be4 _ (by omega) _
  refine ⟨?_, hn⟩
  have hlen : (frameL body ++ rest).length = body.length + 8 + rest.length := by simp [frameL_length]
  have hd4 : (frameL body ++ rest).drop 4 = be4 (sumL (be4 body.length ++ body)) ++ (body ++ rest) := by
    unfold frameL headL
    simp only [List.append_assoc]
    exact List.drop_left' (be4_length _)
  have ht4 : (frameL body ++ rest).take 4 = be4 body.length := by
    unfold frameL headL
    simp only [List.append_assoc]
    exact List.take_left' (be4_length _)
  have hd8 : (frameL body ++ rest).drop 8 = body ++ rest := by
    unfold frameL
    rw [List.append_assoc]
    exact List.drop_left' (headL_length _)
  unfold peek
  rw [hn, hd4, ht4, hd8, num4_be4 _ (sumL_lt _), List.take_left' rfl, if_neg (by omega), if_neg (by omega), if_neg (by omega), if_pos rfl]
def framesL (l : List (List Int)) : List Int := (l.map frameL).flatten
theorem framesL_cons (b : List Int) (l : List (List Int)) : framesL (b :: l) = frameL b ++ framesL l := rfl
theorem framesL_append (l m : List (List Int)) : framesL (l ++ m) = framesL l ++ framesL m := by simp [framesL]
/-- frames are found again, whatever comes behind them -/
theorem scanL_frames : ∀ (l : List (List Int)) (rest : List Int), (∀ b ∈ l, b.length ≤ 1048576) → scanL (framesL l ++ rest) = (l ++ (scanL rest).1, (framesL l).length + (scanL rest).2)
  | [], rest, _ => by simp [framesL]
  | b :: l, rest, h => by
    have hb := h b List.mem_cons_self
    have hp := peek_frame b hb (framesL l ++ rest)
    rw [framesL_cons, List.append_assoc, scanL_step (by rw [hp.1]), hp.1, hp.2, List.drop_left' (by rw [frameL_length]), scanL_frames l rest (fun x hx => h x (List.mem_cons_of_mem _ hx))]
    simp [frameL_length]
    omega
theorem scanL_short {f : List Int} (h : f.length < 8) : scanL f = ([], 0) := scanL_stop (by rw [peek_none h]; decide)
/-- a part of a frame is none -/
theorem scanL_torn (b : List Int) (hb : b.length ≤ 1048576) (k : Nat) (hk : k < b.length + 8) : scanL ((frameL b).take k) = ([], 0) := by
  by_cases h8 : k < 8
  · exact scanL_short (by simp; omega)
  refine scanL_stop ?_
  have hn : num4 ((frameL b).take k) = b.length := by
    rw [num4_take _ _ (by omega)]
    have := (peek_frame b hb []).2
    simpa using this
  have hlen : ((frameL b).take k).length = k := by simp [frameL_length]; omega
  unfold peek
  rw [hlen, hn, if_neg (by omega), if_neg (by omega), if_pos (by omega)]
  decide
/-- what Scan finds lies there as frames -/
theorem be4_num4 {f : List Int} (hf : Byt f) (h : 4 ≤ f.length) : be4 (num4 f) = f.take 4 := by
  match f, h with
  | a :: b :: c :: d :: r, _ =>
    have ha := hf a (by simp)
    have hb := hf b (by simp)
    have hc := hf c (by simp)
    have hd := hf d (by simp)
    simp only [be4, num4, List.getD_cons_zero, List.getD_cons_succ, List.take_succ_cons, List.take_zero, List.cons.injEq, and_true]
    omega
theorem peek_is {f : List Int} (hf : Byt f) (h : (peek f).1 = 0) : f.take (num4 f + 8) = frameL (peek f).2 ∧ (peek f).2.length = num4 f := by
  obtain ⟨h1, h2, h3, h4, h5⟩ := peek_ok h
  have hl : (peek f).2.length = num4 f := by rw [h4]; simp; omega
  refine ⟨?_, hl⟩
  unfold frameL headL
  rw [hl, be4_num4 hf (by omega), h4, ← h5, be4_num4 (hf.drop 4) (by simp; omega)]
  rw [show f.take 4 ++ (f.drop 4).take 4 = f.take 8 from (List.take_add (i := 4) (j := 4)).symm, show num4 f + 8 = 8 + num4 f from Nat.add_comm _ _, List.take_add]
theorem scanL_is0 (f : List Int) (h : ¬ (peek f).1 = 0) : f.take (scanL f).2 = framesL (scanL f).1 ∧ ∀ b ∈ (scanL f).1, b.length ≤ 1048576 := by
  rw [scanL_stop h]
  simp [framesL]
theorem scanL_is1 (n : Nat) (ih : ∀ f : List Int, f.length ≤ n → Byt f → f.take (scanL f).2 = framesL (scanL f).1 ∧ ∀ b ∈ (scanL f).1, b.length ≤ 1048576) (f : List Int) (hn : f.length ≤ n + 1) (hf : Byt f) (h : (peek f).1 = 0) :
    f.take (scanL f).2 = framesL (scanL f).1 ∧ ∀ b ∈ (scanL f).1, b.length ≤ 1048576 := by
  obtain ⟨_, h2, hl, _⟩ := peek_ok h
  have h1 := ih (f.drop (num4 f + 8)) (by rw [List.length_drop]; generalize num4 f = m at hl; omega) (hf.drop _)
  obtain ⟨p1, p2⟩ := peek_is hf h
  rw [scanL_step h]
  revert h1 p1 p2 h2
  generalize num4 f = m
  generalize scanL (f.drop (m + 8)) = p
  generalize (peek f).2 = y
  intro h2 h1 p1 p2
  refine ⟨?_, fun b hb => ?_⟩
  · show f.take (m + 8 + p.2) = framesL (y :: p.1)
    rw [List.take_add, p1, h1.1, framesL_cons]
  · rcases List.mem_cons.1 hb with hb | hb
    · rw [hb, p2]
      exact h2
    · exact h1.2 b hb
theorem scanL_is (n : Nat) : ∀ f : List Int, f.length ≤ n → Byt f → f.take (scanL f).2 = framesL (scanL f).1 ∧ ∀ b ∈ (scanL f).1, b.length ≤ 1048576 := by
  induction n with
  | zero => exact fun f hn _ => scanL_is0 f (by rw [peek_none (by omega)]; decide)
  | succ n ih =>
    intro f hn hf
    by_cases h : (peek f).1 = 0
    · exact scanL_is1 n ih f hn hf h
    · exact scanL_is0 f h
end Go.Proofs.Ytfaniohoplbdoaa.My
