/-
 REASONING ABOUT THE ABSTRACT RUN: slices of slices.
-/
import Derived.Test.YtfcajloeknedeaaGreatOxFg
set_option linter.unusedSimpArgs false
set_option linter.unusedVariables false
namespace Go.Ox
/-- A slice's words. -/
structure Sv where
 a : Option Addr
 len : Nat
 cap : Nat
def Sv.cells (s : Sv) : List Value := [.slice s.a s.len s.cap]
theorem Sv.len1 (s : Sv) : s.cells.length = 1 := rfl
theorem Sv.oc (s : Sv) : s.cells.all Value.oneCell' = true := rfl

theorem erase_perm {β : Type} : ∀ {l : List β} {i : Nat} (hi : i < l.length), (l[i] :: l.eraseIdx i).Perm l
 | [], _, hi => by simp at hi
 | x :: l, 0, _ => .refl _
 | x :: l, i + 1, hi => (List.Perm.swap _ _ _).trans ((erase_perm (by simpa using hi)).cons x)
section
variable {h0 h : AHeap} {F : List Asn}
/-- One of many. -/
theorem St.pick {l : List Asn} (s : St h0 h (star l :: F)) (i : Nat) (hi : i < l.length) : St h0 h (l[i] :: star (l.eraseIdx i) :: F) := by
 have s1 := s.star_out
 have p1 : (l ++ F).Perm ((l[i] :: l.eraseIdx i) ++ F) := (erase_perm hi).symm.append_right F
 have s2 := s1.perm p1
 have p2 : ((l[i] :: l.eraseIdx i) ++ F).Perm (l.eraseIdx i ++ (l[i] :: F)) := by
  rw [List.cons_append]
  exact List.perm_middle.symm
 exact (s2.perm p2).star_in.mv 1
theorem St.unpick {l : List Asn} {A : Asn} (i : Nat) (hi : i < l.length) (s : St h0 h (A :: star (l.eraseIdx i) :: F)) : St h0 h (star (l.set i A) :: F) := by
 have s1 : St h0 h (star (l.eraseIdx i) :: A :: F) := s.mv 1
 have s2 := s1.star_out
 have hi' : i < (l.set i A).length := by simpa using hi
 have p1 : (l.eraseIdx i ++ (A :: F)).Perm (l.set i A ++ F) := by
  refine List.perm_middle.trans ?_
  rw [← List.cons_append]
  refine List.Perm.append_right F ?_
  have := erase_perm hi'
  rw [List.getElem_set_self, List.eraseIdx_set_eq] at this
  exact this
 exact (s2.perm p1).star_in
theorem St.star_snoc {l : List Asn} {A : Asn} (s : St h0 h (star l :: A :: F)) : St h0 h (star (l ++ [A]) :: F) := by
 have s1 := s.star_out
 rw [show l ++ A :: F = (l ++ [A]) ++ F by simp] at s1
 exact s1.star_in
theorem St.star_nil (s : St h0 h F) : St h0 h (star [] :: F) := St.star_in (l := []) s
theorem St.star_app {l m : List Asn} (s : St h0 h (star l :: star m :: F)) : St h0 h (star (l ++ m) :: F) := by
 have s2 : St h0 h (star m :: (l ++ F)) := s.star_out.perm List.perm_middle
 refine (s2.star_out.perm ?_ : St h0 h ((l ++ m) ++ F)).star_in
 rw [← List.append_assoc]
 exact List.perm_append_comm.append_right F
theorem StG.mem {g : Nat → Option ABlk} : ∀ {l : List Asn} {U : List Nat}, StG g l U → ∀ A ∈ l, ∃ B, A.p g B ∧ ∀ b ∈ B, b ∈ U
 | [], _, _, A, hA => by cases hA
 | C :: l, U, ⟨B, V, h1, h2, h3, h4⟩, A, hA => by
  rcases List.mem_cons.1 hA with rfl | hA
  ·exact ⟨B, h2, fun b hb => by rw [h1]; simp [hb]⟩
  ·obtain ⟨B', k1, k2⟩ := StG.mem h4 A hA
   exact ⟨B', k1, fun b hb => by rw [h1]; simp [k2 b hb]⟩
/-- What each of many tells. -/
theorem St.each {l : List Asn} (s : St h0 h (star l :: F)) {A : Asn} (hA : A ∈ l) : ∃ B, A.p h.get B ∧ ∀ b ∈ B, h0.next ≤ b ∧ b < h.next := by
 obtain ⟨U, ⟨B, V, rfl, k2, k3, k4⟩, hb⟩ := s.use
 obtain ⟨C, q1, q2⟩ := StG.mem k2 A hA
 exact ⟨C, q1, fun b hb' => hb b (by simp [q2 b hb'])⟩
end

section
variable {α : Type} (f : α → List Value) (k : Nat) (e : TypeId)
def wns (S : List Sv) (LL : List (List α)) : List Asn := List.zipWith (fun s L => wn f k e s.a s.cap L) S LL
/-- A slice of slices, all of one's own. -/
def nest (E : TypeId) (a : Option Addr) (c : Nat) (LL : List (List α)) : Asn :=
 exs fun S : List Sv => star [fact (S.map Sv.len = LL.map List.length), wn Sv.cells 1 E a c S, star (wns f k e S LL)]
/-- One that can be read. -/
def RsN (h : AHeap) (a : Option Addr) (LL : List (List α)) : Prop := ∃ S : List Sv, S.map Sv.len = LL.map List.length ∧ Rs Sv.cells 1 h a S ∧ ∀ (i : Nat) (hi : i < S.length) (hj : i < LL.length), Rs f k h S[i].a LL[i] ∧ (S[i].a = none → LL[i] = [] ∧ S[i].cap = 0)
end
section
variable {α : Type} {f : α → List Value} {k : Nat} {e E : TypeId} {h0 h : AHeap} {F : List Asn} {a : Option Addr} {c : Nat} {LL : List (List α)}
theorem RsN.fr {h' : AHeap} (r : RsN f k h a LL) (hf : Fr h h' []) : RsN f k h' a LL := let ⟨S, h1, h2, h3⟩ := r; ⟨S, h1, h2.fr hf, fun i hi hj => ⟨(h3 i hi hj).1.fr hf, (h3 i hi hj).2⟩⟩
theorem St.nest_out (s : St h0 h (nest f k e E a c LL :: F)) : ∃ S : List Sv, S.map Sv.len = LL.map List.length ∧ St h0 h (wn Sv.cells 1 E a c S :: star (wns f k e S LL) :: F) := by
 obtain ⟨S, s⟩ := s.ex_out
 obtain ⟨h1, s⟩ := (s.star_out : St h0 h (fact _ :: wn Sv.cells 1 E a c S :: star (wns f k e S LL) :: F)).fact_out
 exact ⟨S, h1, s⟩
theorem St.nest_in {S : List Sv} (hS : S.map Sv.len = LL.map List.length) (s : St h0 h (wn Sv.cells 1 E a c S :: star (wns f k e S LL) :: F)) : St h0 h (nest f k e E a c LL :: F) :=
 St.ex_in S (St.star_in (l := [fact (S.map Sv.len = LL.map List.length), wn Sv.cells 1 E a c S, star (wns f k e S LL)]) (s.fact_in hS))
theorem lens {S : List Sv} (hS : S.map Sv.len = LL.map List.length) : S.length = LL.length := by simpa using congrArg List.length hS
theorem lens_at {S : List Sv} (hS : S.map Sv.len = LL.map List.length) (i : Nat) (hi : i < S.length) (hj : i < LL.length) : S[i].len = LL[i].length := by
 have h1 : (S.map Sv.len)[i]? = (LL.map List.length)[i]? := by rw [hS]
 simpa [List.getElem?_map, List.getElem?_eq_getElem hi, List.getElem?_eq_getElem hj] using h1
theorem wns_len {S : List Sv} (hS : S.length = LL.length) : (wns f k e S LL).length = LL.length := by simp [wns, hS]
theorem wns_at {S : List Sv} (i : Nat) (hi : i < S.length) (hj : i < LL.length) (hw : i < (wns f k e S LL).length) : (wns f k e S LL)[i] = wn f k e S[i].a S[i].cap LL[i] := by simp [wns]
theorem wns_set {s : Sv} {L : List α} : ∀ (S : List Sv) (LL : List (List α)) (i : Nat), wns f k e (S.set i s) (LL.set i L) = (wns f k e S LL).set i (wn f k e s.a s.cap L)
 | [], LL, i => by simp [wns]
 | S, [], i => by simp [wns]
 | x :: S, M :: LL, 0 => by simp [wns]
 | x :: S, M :: LL, i + 1 => by
  have := wns_set (s := s) (L := L) S LL i
  simp only [wns, List.set_cons_succ, List.zipWith_cons_cons] at *
  rw [this]
theorem wns_snoc {S : List Sv} {s : Sv} {L : List α} (hS : S.length = LL.length) : wns f k e (S ++ [s]) (LL ++ [L]) = wns f k e S LL ++ [wn f k e s.a s.cap L] := by
 unfold wns; rw [List.zipWith_append hS]; rfl
theorem wn_nilcap {S : Option Addr} {cp : Nat} {L : List α} {g : Nat → Option ABlk} {B : List Nat} (hB : (wn f k e S cp L).p g B) (hn : S = none) : L = [] ∧ cp = 0 := by
 rcases hB with ⟨h1, h2, h3, _⟩ | ⟨b, h1, _⟩
 ·exact ⟨h1, h3⟩
 ·rw [hn] at h1; cases h1
theorem wn_rs {S : Option Addr} {cp : Nat} {L : List α} {B : List Nat} (hf : ∀ x, (f x).length = k) (hB : (wn f k e S cp L).p h.get B) (hb : ∀ b ∈ B, b < h.next) : Rs f k h S L := by
 have w : Wn f k e h S cp L B := by
  rcases hB with hB | ⟨b, h1, h2, h3, h4⟩
  ·exact .inl hB
  ·exact .inr ⟨b, h1, h2, hb b (by rw [h2]; simp), h3, h4⟩
 exact w.rs hf
theorem wns_mem {S : List Sv} (i : Nat) (hi : i < S.length) (hj : i < LL.length) : wn f k e S[i].a S[i].cap LL[i] ∈ wns f k e S LL := by
 have hw : i < (wns f k e S LL).length := by simp [wns]; omega
 rw [← wns_at i hi hj hw]; exact List.getElem_mem hw
theorem St.wns_rs {S : List Sv} (hf : ∀ x, (f x).length = k) (s : St h0 h (star (wns f k e S LL) :: F)) (i : Nat) (hi : i < S.length) (hj : i < LL.length) : Rs f k h S[i].a LL[i] ∧ (S[i].a = none → LL[i] = [] ∧ S[i].cap = 0) := by
 obtain ⟨B, h1, h2⟩ := s.each (wns_mem i hi hj)
 exact ⟨wn_rs hf h1 fun b hb => (h2 b hb).2, fun hn => wn_nilcap h1 hn⟩
theorem St.rsn (hf : ∀ x, (f x).length = k) (s : St h0 h (nest f k e E a c LL :: F)) : RsN f k h a LL := by
 obtain ⟨S, hS, s⟩ := s.nest_out
 exact ⟨S, hS, s.rs Sv.len1, fun i hi hj => s.drop.wns_rs hf i hi hj⟩
theorem St.nest_nil (s : St h0 h F) : St h0 h (nest f k e E none 0 ([] : List (List α)) :: F) := by
 refine St.nest_in (S := []) rfl ?_
 exact (St.wn_nil (St.star_nil s))
end
end Go.Ox
namespace Go.Ox
section
variable {α : Type} {f : α → List Value} {k : Nat} {h0 h : AHeap} {F : List Asn} {a : Option Addr} {L : List α} {LL : List (List α)}
/-- What can be read as long as some pieces are held. -/
def Rd (h0 : AHeap) (F : List Asn) {α : Type} (f : α → List Value) (k : Nat) (a : Option Addr) (L : List α) : Prop := ∀ h, St h0 h F → Rs f k h a L
def RdN (h0 : AHeap) (F : List Asn) {α : Type} (f : α → List Value) (k : Nat) (a : Option Addr) (LL : List (List α)) : Prop :=
 ∃ S : List Sv, S.map Sv.len = LL.map List.length ∧ Rd h0 F Sv.cells 1 a S ∧ ∀ (i : Nat) (hi : i < S.length) (hj : i < LL.length), Rd h0 F f k S[i].a LL[i] ∧ (S[i].a = none → LL[i] = [] ∧ S[i].cap = 0)
theorem Rd.of_base (r : Rs f k h0 a L) : Rd h0 F f k a L := fun _ s => r.fr s.base
theorem RdN.of_base (r : RsN f k h0 a LL) : RdN h0 F f k a LL := let ⟨S, h1, h2, h3⟩ := r; ⟨S, h1, Rd.of_base h2, fun i hi hj => ⟨Rd.of_base (h3 i hi hj).1, (h3 i hi hj).2⟩⟩
theorem RdN.at (r : RdN h0 F f k a LL) (s : St h0 h F) : RsN f k h a LL := let ⟨S, h1, h2, h3⟩ := r; ⟨S, h1, h2 _ s, fun i hi hj => ⟨(h3 i hi hj).1 _ s, (h3 i hi hj).2⟩⟩
theorem Rd.up {A : Asn} (r : Rd h0 F f k a L) : Rd h0 (A :: F) f k a L := fun h s => r h s.drop
theorem RdN.up {A : Asn} (r : RdN h0 F f k a LL) : RdN h0 (A :: F) f k a LL := let ⟨S, h1, h2, h3⟩ := r; ⟨S, h1, h2.up, fun i hi hj => ⟨(h3 i hi hj).1.up, (h3 i hi hj).2⟩⟩
theorem Rd.wn (hf : ∀ x, (f x).length = k) {e : TypeId} {c : Nat} : Rd h0 (Go.Ox.wn f k e a c L :: F) f k a L := fun _ s => s.rs hf
end
end Go.Ox
namespace Go.Ox
/-! ### some of the pieces, in an order that is told -/
theorem range_get : ∀ (n : Nat) (l : List Asn), (List.range n).filterMap (fun i => l[i]?) = l.take n
 | 0, l => by simp
 | n + 1, [] => by simp
 | n + 1, A :: l => by
  rw [List.range_succ_eq_map, List.filterMap_cons, List.filterMap_map]
  have := range_get n l
  simp only [List.getElem?_cons_zero, List.take_succ_cons]
  congr 1
theorem St.mid {h0 h : AHeap} {l m F : List Asn} (s : St h0 h (l ++ m ++ F)) : St h0 h (l ++ F) := by
 rw [List.append_assoc] at s
 have s1 : St h0 h (m ++ F ++ l) := s.perm List.perm_append_comm
 rw [List.append_assoc] at s1
 obtain ⟨U, h1, hb⟩ := s1.use
 obtain ⟨B, V, rfl, k2, k3, k4⟩ := StG.append.1 h1
 have s2 : St h0 h (F ++ l) := ⟨s1.base, V, k4, fun b k => hb b (by simp [k])⟩
 exact s2.perm List.perm_append_comm
theorem St.sel {h0 h : AHeap} {l : List Asn} (s : St h0 h l) (n : Nat) (is : List Nat) (hp : (is ++ (List.range n).filter (fun i => !is.contains i)).Perm (List.range n) := by decide) :
  St h0 h (is.filterMap (fun i => l[i]?) ++ l.drop n) := by
 have s1 : St h0 h (l.take n ++ l.drop n) := by rw [List.take_append_drop]; exact s
 rw [← range_get] at s1
 have s2 := s1.perm ((hp.symm.filterMap (fun i => l[i]?)).append_right (l.drop n))
 rw [List.filterMap_append] at s2
 exact s2.mid
end Go.Ox
namespace Go.Ox
section
variable {α : Type} {f : α → List Value} {k : Nat} {e E : TypeId} {h0 h : AHeap} {F : List Asn} {a : Option Addr} {c : Nat} {L : List α} {LL : List (List α)}
/-- One more behind a slice of one's own. -/
theorem St.app1 {bytes : Nat} (x : α) (hf : ∀ x, (f x).length = k) (hoc : ∀ x : α, (f x).all Value.oneCell' = true) (s : St h0 h (Go.Ox.wn f k e a c L :: F)) (h1 : (L.length + 1) * bytes ≤ 140737488355328) (h2 : L.length + 1 < 4611686018427387904) :
  ∃ a' c' h2, apF (h.push (.cells false k (f x) e)) k bytes e a L.length c (some ⟨h.next, 0, none⟩) 1 1 = some (.slice a' (L.length + 1) c', h2) ∧ St h0 h2 (Go.Ox.wn f k e a' c' (L ++ [x]) :: F) := by
 have s1 := s.push (.cells false k (f x) e)
 obtain ⟨a', c', h2, y1, y2⟩ := (s1.mv 1).app (M := [x]) (bytes := bytes) (d := 1) (s' := some ⟨h.next, 0, none⟩) hf hoc (fst_all s1.get (by simp [hf]) |>.trans (by simp)) (by simpa using h1) (by simpa using h2)
 refine ⟨a', c', h2, ?_, (y2.mv 1).drop⟩
 rw [List.length_append] at y1
 exact y1
theorem St.nest_app {a2 : Option Addr} {c2 : Nat} (s : St h0 h (Go.Ox.wn f k e a2 c2 L :: nest f k e E a c LL :: F)) (h1 : LL.length < 1000000) :
  ∃ a' c' h2, apF (h.push (.cells false 1 [.slice a2 L.length c2] E)) 1 24 E a LL.length c (some ⟨h.next, 0, none⟩) 1 1 = some (.slice a' (LL.length + 1) c', h2) ∧ St h0 h2 (nest f k e E a' c' (LL ++ [L]) :: F) := by
 obtain ⟨M, hM, s1⟩ := (s.mv 1).nest_out
 have hMl := lens hM
 obtain ⟨a', c', h2, y1, y2⟩ := s1.app1 (f := Sv.cells) (bytes := 24) ⟨a2, L.length, c2⟩ Sv.len1 Sv.oc (by omega) (by omega)
 rw [hMl] at y1
 refine ⟨a', c', h2, y1, ?_⟩
 have q1 := y2.sel 3 [1, 2, 0]
 have q2 : St h0 h2 (star (wns f k e M LL) :: Go.Ox.wn f k e a2 c2 L :: Go.Ox.wn Sv.cells 1 E a' c' (M ++ [⟨a2, L.length, c2⟩]) :: F) := q1
 have q3 := q2.star_snoc
 have ew := wns_snoc (f := f) (k := k) (e := e) (S := M) (s := ⟨a2, L.length, c2⟩) (LL := LL) (L := L) hMl
 rw [← ew] at q3
 exact St.nest_in (by rw [List.map_append, hM, List.map_append]; rfl) (q3.mv 1)
end
end Go.Ox
