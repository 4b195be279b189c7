/- Several texts, one behind the other. Conditions: as each of them says. -/
import Derived.Test.YtlmfbjiejodalaaGreatDoorMx32
import Derived.Test.YtlmfbjiejodalaaGreatDoorMx28
import Derived.Test.YtlmfbjiejodalaaGreatDoorMx26
set_option maxRecDepth 100000
set_option maxHeartbeats 32000000
namespace Go.Proofs.YtlmfbjiejodalaaGreatDoor
open Go.RowKit
section
variable {w:World} {M M':Nat→Prop} {a b p q p' q':Option Addr} {c d cp cq cp' cq':Nat}
theorem lists_tt {xs ys:List (List Int)} (h1:Sl M w a c xs) (h2:Sl M' w b d ys) (h:xs=ys):Calls Tryz.prog 75 #[.slice a xs.length c,.slice b ys.length d] w fun e w'=>e= .returned (.bool true)∧Below w.heap.size w w':=by
 have h3:=lists_any (h1.anti (M':=fun _=>False) fun _ _ h=>h.elim) (h2.anti (M':=fun _=>False) fun _ _ h=>h.elim)
 rw [decide_eq_true h] at h3
 exact h3.mono fun e w' ⟨e1,n,e2⟩=>⟨e1,by rw [e2];exact bl_drewN (Below.refl _ _) n⟩
theorem lists_0 (w:World):Calls Tryz.prog 75 #[.slice none 0 0,.slice none 0 0] w fun e w'=>e= .returned (.bool true)∧Below w.heap.size w w':=
 lists_tt (M:=fun _=>False) (M':=fun _=>False) (xs:=[]) (ys:=[]) (Sl.nil _ _ none (c:=0) (by unfold maxLen;omega)) (Sl.nil _ _ none (c:=0) (by unfold maxLen;omega)) rfl
theorem sametr0 (w:World):Calls Tryz.prog 45 #[.slice none 0 0,.slice none 0 0] w fun e w'=>e= .returned (.bool true)∧Below w.heap.size w w':=
 (sameTr_yes (M:=fun _=>False) (xs:=[]) (ys:=[]) (Sl.nil _ _ none (c:=0) (by unfold maxLen;omega)) (Sl.nil _ _ none (c:=0) (by unfold maxLen;omega)) (Lib.hid rfl)).mono fun e w' ⟨e1,n,e2⟩=>⟨e1,by rw [e2];exact bl_drewN (Below.refl _ _) n⟩
theorem sameO0 (w:World):Calls Tryz.prog 38 #[ob1,ob1] w fun e w'=>e= .returned (.bool true)∧Below w.heap.size w w':=by
 have hB:Below w.heap.size w ((w.alloc (.cells #[.int .i64 1,.slice none 0 0] 39)).alloc (.cells #[.int .i64 1,.slice none 0 0] 39)):=by (repeat' (first|with_reducible exact Below.refl _ _|with_reducible assumption|with_reducible refine bl_drewN ?_ _|with_reducible refine Below.drew ?_|with_reducible refine Below.alloc ?_ ?_ _|with_reducible refine Below.setCell ?_ ?_ _|omega|(simp;done)|(simp;omega)))
 go_enter Tryz.func38,Tryz.ntmps38
 go_wp2_with fail
 refine (sametr0 _).mono ?_
 rintro e w1 ⟨rfl,hb1⟩
 have hB1:=hB.trans (hb1.mono hB.size)
 go_wp2
 go_ret
 exact ⟨rfl,hB1⟩
theorem sameM0 (w:World):Calls Tryz.prog 74 #[.agg #[.int .i64 0,.int .i64 0,.slice none 0 0,.slice none 0 0],.agg #[.int .i64 0,.int .i64 0,.slice none 0 0,.slice none 0 0]] w fun e w'=>e= .returned (.bool true)∧Below w.heap.size w w':=by
 obtain ⟨W,hW⟩:∃W,W=(w.alloc (.cells #[.int .i64 0,.int .i64 0,.slice none 0 0,.slice none 0 0] 41)).alloc (.cells #[.int .i64 0,.int .i64 0,.slice none 0 0,.slice none 0 0] 41):=⟨_,rfl⟩
 have hB:Below w.heap.size w W:=by rw [hW];(repeat' (first|with_reducible exact Below.refl _ _|with_reducible assumption|with_reducible refine bl_drewN ?_ _|with_reducible refine Below.drew ?_|with_reducible refine Below.alloc ?_ ?_ _|with_reducible refine Below.setCell ?_ ?_ _|omega|(simp;done)|(simp;omega)))
 have h0:W.heap[w.heap.size]? =some (.cells #[.int .i64 0,.int .i64 0,.slice none 0 0,.slice none 0 0] 41 (0,0)):=by rw [hW];(repeat (first|(refine heap_at ?_;(simp;done))|refine heap_old ?_))
 have h1:W.heap[w.heap.size+1]? =some (.cells #[.int .i64 0,.int .i64 0,.slice none 0 0,.slice none 0 0] 41 (0,0)):=by rw [hW];(repeat (first|(refine heap_at ?_;(simp;done))|refine heap_old ?_))
 have hz:w.heap.size+2≤W.heap.size:=by rw [hW];simp
 go_enter Tryz.func74,Tryz.ntmps74
 go_wp2_with fail
 rw [←hW]
 clear hW
 refine (lists_0 _).mono ?_
 rintro e w1 ⟨rfl,hb1⟩
 have hB1:=hB.trans (hb1.mono hB.size)
 have c0:∀o,w1.cell? ⟨w.heap.size,o,none⟩=(#[.int .i64 0,.int .i64 0,.slice none 0 0,.slice none 0 0]:Array Value)[o]? :=fun o=>by rw [cell_of_row _ _ _ _ _ _ ((hb1.block _ (by omega)).trans h0)]
 have c1:∀o,w1.cell? ⟨w.heap.size+1,o,none⟩=(#[.int .i64 0,.int .i64 0,.slice none 0 0,.slice none 0 0]:Array Value)[o]? :=fun o=>by rw [cell_of_row _ _ _ _ _ _ ((hb1.block _ (by omega)).trans h1)]
 clear hb1 hB h0 h1
 go_wp2_with fail
 refine (lists_0 _).mono ?_
 rintro e w2 ⟨rfl,hb2⟩
 have hB2:=hB1.trans (hb2.mono hB1.size)
 go_wp2
 go_ret
 exact ⟨rfl,hB2⟩
theorem sameH0 (w:World):Calls Tryz.prog 39 #[.agg #[.int .i64 0,.int .i64 0,.slice none 0 0,.slice none 0 0,.slice none 0 0],.agg #[.int .i64 0,.int .i64 0,.slice none 0 0,.slice none 0 0,.slice none 0 0]] w fun e w'=>e= .returned (.bool true)∧Below w.heap.size w w':=by
 obtain ⟨W,hW⟩:∃W,W=(w.alloc (.cells #[.int .i64 0,.int .i64 0,.slice none 0 0,.slice none 0 0,.slice none 0 0] 43)).alloc (.cells #[.int .i64 0,.int .i64 0,.slice none 0 0,.slice none 0 0,.slice none 0 0] 43):=⟨_,rfl⟩
 have hB:Below w.heap.size w W:=by rw [hW];(repeat' (first|with_reducible exact Below.refl _ _|with_reducible assumption|with_reducible refine bl_drewN ?_ _|with_reducible refine Below.drew ?_|with_reducible refine Below.alloc ?_ ?_ _|with_reducible refine Below.setCell ?_ ?_ _|omega|(simp;done)|(simp;omega)))
 have h0:W.heap[w.heap.size]? =some (.cells #[.int .i64 0,.int .i64 0,.slice none 0 0,.slice none 0 0,.slice none 0 0] 43 (0,0)):=by rw [hW];(repeat (first|(refine heap_at ?_;(simp;done))|refine heap_old ?_))
 have h1:W.heap[w.heap.size+1]? =some (.cells #[.int .i64 0,.int .i64 0,.slice none 0 0,.slice none 0 0,.slice none 0 0] 43 (0,0)):=by rw [hW];(repeat (first|(refine heap_at ?_;(simp;done))|refine heap_old ?_))
 have hz:w.heap.size+2≤W.heap.size:=by rw [hW];simp
 go_enter Tryz.func39,Tryz.ntmps39
 go_wp2_with fail
 rw [←hW]
 clear hW
 refine (sameM0 _).mono ?_
 rintro e w1 ⟨rfl,hb1⟩
 have hB1:=hB.trans (hb1.mono hB.size)
 have c0:∀o,w1.cell? ⟨w.heap.size,o,none⟩=(#[.int .i64 0,.int .i64 0,.slice none 0 0,.slice none 0 0,.slice none 0 0]:Array Value)[o]? :=fun o=>by rw [cell_of_row _ _ _ _ _ _ ((hb1.block _ (by omega)).trans h0)]
 have c1:∀o,w1.cell? ⟨w.heap.size+1,o,none⟩=(#[.int .i64 0,.int .i64 0,.slice none 0 0,.slice none 0 0,.slice none 0 0]:Array Value)[o]? :=fun o=>by rw [cell_of_row _ _ _ _ _ _ ((hb1.block _ (by omega)).trans h1)]
 clear hb1 hB h0 h1
 go_wp2_with fail
 refine (lists_0 _).mono ?_
 rintro e w2 ⟨rfl,hb2⟩
 have hB2:=hB1.trans (hb2.mono hB1.size)
 go_wp2
 go_ret
 exact ⟨rfl,hB2⟩
theorem sameD0 (w:World):Calls Tryz.prog 76 #[.agg #[.slice none 0 0],.agg #[.slice none 0 0]] w fun e w'=>e= .returned (.bool true)∧Below w.heap.size w w':=by
 have hB:Below w.heap.size w ((w.alloc (.cells #[.slice none 0 0] 32)).alloc (.cells #[.slice none 0 0] 32)):=by (repeat' (first|with_reducible exact Below.refl _ _|with_reducible assumption|with_reducible refine bl_drewN ?_ _|with_reducible refine Below.drew ?_|with_reducible refine Below.alloc ?_ ?_ _|with_reducible refine Below.setCell ?_ ?_ _|omega|(simp;done)|(simp;omega)))
 go_enter Tryz.func76,Tryz.ntmps76
 go_wp2
 go_loopw [5] (fun i wr=>i= .int .i64 0∧wr=((w.alloc (.cells #[.slice none 0 0] 32)).alloc (.cells #[.slice none 0 0] 32))) (fun _ _=>0)
 case atStart=>exact ⟨rfl,rfl⟩
 case round=>
  obtain ⟨rfl,rfl⟩:=hrel
  go_wp2
  go_ret
  exact ⟨rfl,hB⟩
end
section
variable {w:World} {M M' M2 M3:Nat→Prop} {p q p' q':Option Addr} {cp cq cp' cq':Nat}
theorem sameL1 (hp:Sl M w p cp ([[]]:List (List Int))) (hq:Sl M' w q cq ([[0]]:List (List Int))) (hp':Sl M2 w p' cp' ([[]]:List (List Int))) (hq':Sl M3 w q' cq' ([[0]]:List (List Int))):
    Calls Tryz.prog 40 #[.agg #[.int .i64 1,.int .i64 1,.int .i64 1,.int .i64 0,.int .u64 0,.int .i64 0,.int .i64 0,.int .i64 3,.int .i64 0,.int .i64 1,.slice p 1 cp,.slice q 1 cq,.int .i64 0,.slice none 0 0,.int .i64 0,.slice none 0 0,.slice none 0 0,.int .i64 1,.slice none 0 0,.int .i64 0,.int .i64 0,.slice none 0 0,.slice none 0 0,.slice none 0 0,.int .i64 0,.int .i64 0],.agg #[.int .i64 1,.int .i64 1,.int .i64 1,.int .i64 0,.int .u64 0,.int .i64 0,.int .i64 0,.int .i64 3,.int .i64 0,.int .i64 1,.slice p' 1 cp',.slice q' 1 cq',.int .i64 0,.slice none 0 0,.int .i64 0,.slice none 0 0,.slice none 0 0,.int .i64 1,.slice none 0 0,.int .i64 0,.int .i64 0,.slice none 0 0,.slice none 0 0,.slice none 0 0,.int .i64 0,.int .i64 0]] w fun e w'=>e= .returned (.bool true)∧Below w.heap.size w w':=by
 obtain ⟨w0,hW⟩:∃W,W=(w.alloc (.cells #[.int .i64 1,.int .i64 1,.int .i64 1,.int .i64 0,.int .u64 0,.int .i64 0,.int .i64 0,.int .i64 3,.int .i64 0,.int .i64 1,.slice p 1 cp,.slice q 1 cq,.int .i64 0,.slice none 0 0,.int .i64 0,.slice none 0 0,.slice none 0 0,.int .i64 1,.slice none 0 0,.int .i64 0,.int .i64 0,.slice none 0 0,.slice none 0 0,.slice none 0 0,.int .i64 0,.int .i64 0] 46)).alloc (.cells #[.int .i64 1,.int .i64 1,.int .i64 1,.int .i64 0,.int .u64 0,.int .i64 0,.int .i64 0,.int .i64 3,.int .i64 0,.int .i64 1,.slice p' 1 cp',.slice q' 1 cq',.int .i64 0,.slice none 0 0,.int .i64 0,.slice none 0 0,.slice none 0 0,.int .i64 1,.slice none 0 0,.int .i64 0,.int .i64 0,.slice none 0 0,.slice none 0 0,.slice none 0 0,.int .i64 0,.int .i64 0] 46):=⟨_,rfl⟩
 have hB0:Below w.heap.size w w0:=by rw [hW];(repeat' (first|with_reducible exact Below.refl _ _|with_reducible assumption|with_reducible refine bl_drewN ?_ _|with_reducible refine Below.drew ?_|with_reducible refine Below.alloc ?_ ?_ _|with_reducible refine Below.setCell ?_ ?_ _|omega|(simp;done)|(simp;omega)))
 have h0_0:w0.heap[w.heap.size]? =some (.cells #[.int .i64 1,.int .i64 1,.int .i64 1,.int .i64 0,.int .u64 0,.int .i64 0,.int .i64 0,.int .i64 3,.int .i64 0,.int .i64 1,.slice p 1 cp,.slice q 1 cq,.int .i64 0,.slice none 0 0,.int .i64 0,.slice none 0 0,.slice none 0 0,.int .i64 1,.slice none 0 0,.int .i64 0,.int .i64 0,.slice none 0 0,.slice none 0 0,.slice none 0 0,.int .i64 0,.int .i64 0] 46 (0,0)):=by rw [hW];exact heap_old (heap_alloc_new _ _)
 have h1_0:w0.heap[w.heap.size+1]? =some (.cells #[.int .i64 1,.int .i64 1,.int .i64 1,.int .i64 0,.int .u64 0,.int .i64 0,.int .i64 0,.int .i64 3,.int .i64 0,.int .i64 1,.slice p' 1 cp',.slice q' 1 cq',.int .i64 0,.slice none 0 0,.int .i64 0,.slice none 0 0,.slice none 0 0,.int .i64 1,.slice none 0 0,.int .i64 0,.int .i64 0,.slice none 0 0,.slice none 0 0,.slice none 0 0,.int .i64 0,.int .i64 0] 46 (0,0)):=by rw [hW];exact heap_at (by simp)
 have hs0:Hid (w.heap.size+2≤w0.heap.size):=by unfold Hid;rw [hW];simp
 have hz:=hs0
 have HP:Hid (∀w',Below w.heap.size w w'→Calls Tryz.prog 75 #[.slice p 1 cp,.slice p' 1 cp'] w' fun e w2=>e= .returned (.bool true)∧Below w'.heap.size w' w2):=fun w' hb=>lists_tt (xs:=([[]]:List (List Int))) (ys:=([[]]:List (List Int))) (hp.below hb) (hp'.below hb) rfl
 have HQ:Hid (∀w',Below w.heap.size w w'→Calls Tryz.prog 75 #[.slice q 1 cq,.slice q' 1 cq'] w' fun e w2=>e= .returned (.bool true)∧Below w'.heap.size w' w2):=fun w' hb=>lists_tt (xs:=([[0]]:List (List Int))) (ys:=([[0]]:List (List Int))) (hq.below hb) (hq'.below hb) rfl
 clear hp hq hp' hq'
 go_enter Tryz.func40,Tryz.ntmps40
 go_wp2_with fail
 rw [←hW]
 clear hW
 refine (HP.out _ hB0).mono ?_
 rintro e w1 ⟨rfl,hb1⟩
 have hB1:=hB0.trans (hb1.mono hB0.size)
 have h0_1:=(hb1.block _ (by have:=hs0.out;omega)).trans h0_0
 have h1_1:=(hb1.block _ (by have:=hs0.out;omega)).trans h1_0
 have hs1:Hid (w.heap.size+2≤w1.heap.size):=by have:=hb1.size;have:=hs0.out;unfold Hid;omega
 have c0:∀o,w1.cell? ⟨w.heap.size,o,none⟩=(#[.int .i64 1,.int .i64 1,.int .i64 1,.int .i64 0,.int .u64 0,.int .i64 0,.int .i64 0,.int .i64 3,.int .i64 0,.int .i64 1,.slice p 1 cp,.slice q 1 cq,.int .i64 0,.slice none 0 0,.int .i64 0,.slice none 0 0,.slice none 0 0,.int .i64 1,.slice none 0 0,.int .i64 0,.int .i64 0,.slice none 0 0,.slice none 0 0,.slice none 0 0,.int .i64 0,.int .i64 0]:Array Value)[o]? :=fun o=>by rw [cell_of_row _ _ _ _ _ _ h0_1]
 have c1:∀o,w1.cell? ⟨w.heap.size+1,o,none⟩=(#[.int .i64 1,.int .i64 1,.int .i64 1,.int .i64 0,.int .u64 0,.int .i64 0,.int .i64 0,.int .i64 3,.int .i64 0,.int .i64 1,.slice p' 1 cp',.slice q' 1 cq',.int .i64 0,.slice none 0 0,.int .i64 0,.slice none 0 0,.slice none 0 0,.int .i64 1,.slice none 0 0,.int .i64 0,.int .i64 0,.slice none 0 0,.slice none 0 0,.slice none 0 0,.int .i64 0,.int .i64 0]:Array Value)[o]? :=fun o=>by rw [cell_of_row _ _ _ _ _ _ h1_1]
 clear hb1 hB0 h0_0 h1_0 hs0
 go_wp2_with fail
 clear c0 c1
 refine (HQ.out _ hB1).mono ?_
 rintro e w2 ⟨rfl,hb2⟩
 have hB2:=hB1.trans (hb2.mono hB1.size)
 have h0_2:=(hb2.block _ (by have:=hs1.out;omega)).trans h0_1
 have h1_2:=(hb2.block _ (by have:=hs1.out;omega)).trans h1_1
 have hs2:Hid (w.heap.size+2≤w2.heap.size):=by have:=hb2.size;have:=hs1.out;unfold Hid;omega
 have c0:∀o,w2.cell? ⟨w.heap.size,o,none⟩=(#[.int .i64 1,.int .i64 1,.int .i64 1,.int .i64 0,.int .u64 0,.int .i64 0,.int .i64 0,.int .i64 3,.int .i64 0,.int .i64 1,.slice p 1 cp,.slice q 1 cq,.int .i64 0,.slice none 0 0,.int .i64 0,.slice none 0 0,.slice none 0 0,.int .i64 1,.slice none 0 0,.int .i64 0,.int .i64 0,.slice none 0 0,.slice none 0 0,.slice none 0 0,.int .i64 0,.int .i64 0]:Array Value)[o]? :=fun o=>by rw [cell_of_row _ _ _ _ _ _ h0_2]
 have c1:∀o,w2.cell? ⟨w.heap.size+1,o,none⟩=(#[.int .i64 1,.int .i64 1,.int .i64 1,.int .i64 0,.int .u64 0,.int .i64 0,.int .i64 0,.int .i64 3,.int .i64 0,.int .i64 1,.slice p' 1 cp',.slice q' 1 cq',.int .i64 0,.slice none 0 0,.int .i64 0,.slice none 0 0,.slice none 0 0,.int .i64 1,.slice none 0 0,.int .i64 0,.int .i64 0,.slice none 0 0,.slice none 0 0,.slice none 0 0,.int .i64 0,.int .i64 0]:Array Value)[o]? :=fun o=>by rw [cell_of_row _ _ _ _ _ _ h1_2]
 clear hb2 hB1 h0_1 h1_1 hs1
 go_wp2_with fail
 clear c0 c1
 refine (lists_0 _).mono ?_
 rintro e w3 ⟨rfl,hb3⟩
 have hB3:=hB2.trans (hb3.mono hB2.size)
 have h0_3:=(hb3.block _ (by have:=hs2.out;omega)).trans h0_2
 have h1_3:=(hb3.block _ (by have:=hs2.out;omega)).trans h1_2
 have hs3:Hid (w.heap.size+2≤w3.heap.size):=by have:=hb3.size;have:=hs2.out;unfold Hid;omega
 have c0:∀o,w3.cell? ⟨w.heap.size,o,none⟩=(#[.int .i64 1,.int .i64 1,.int .i64 1,.int .i64 0,.int .u64 0,.int .i64 0,.int .i64 0,.int .i64 3,.int .i64 0,.int .i64 1,.slice p 1 cp,.slice q 1 cq,.int .i64 0,.slice none 0 0,.int .i64 0,.slice none 0 0,.slice none 0 0,.int .i64 1,.slice none 0 0,.int .i64 0,.int .i64 0,.slice none 0 0,.slice none 0 0,.slice none 0 0,.int .i64 0,.int .i64 0]:Array Value)[o]? :=fun o=>by rw [cell_of_row _ _ _ _ _ _ h0_3]
 have c1:∀o,w3.cell? ⟨w.heap.size+1,o,none⟩=(#[.int .i64 1,.int .i64 1,.int .i64 1,.int .i64 0,.int .u64 0,.int .i64 0,.int .i64 0,.int .i64 3,.int .i64 0,.int .i64 1,.slice p' 1 cp',.slice q' 1 cq',.int .i64 0,.slice none 0 0,.int .i64 0,.slice none 0 0,.slice none 0 0,.int .i64 1,.slice none 0 0,.int .i64 0,.int .i64 0,.slice none 0 0,.slice none 0 0,.slice none 0 0,.int .i64 0,.int .i64 0]:Array Value)[o]? :=fun o=>by rw [cell_of_row _ _ _ _ _ _ h1_3]
 clear hb3 hB2 h0_2 h1_2 hs2
 go_wp2_with fail
 clear c0 c1
 refine (lists_0 _).mono ?_
 rintro e w4 ⟨rfl,hb4⟩
 have hB4:=hB3.trans (hb4.mono hB3.size)
 have h0_4:=(hb4.block _ (by have:=hs3.out;omega)).trans h0_3
 have h1_4:=(hb4.block _ (by have:=hs3.out;omega)).trans h1_3
 have hs4:Hid (w.heap.size+2≤w4.heap.size):=by have:=hb4.size;have:=hs3.out;unfold Hid;omega
 have c0:∀o,w4.cell? ⟨w.heap.size,o,none⟩=(#[.int .i64 1,.int .i64 1,.int .i64 1,.int .i64 0,.int .u64 0,.int .i64 0,.int .i64 0,.int .i64 3,.int .i64 0,.int .i64 1,.slice p 1 cp,.slice q 1 cq,.int .i64 0,.slice none 0 0,.int .i64 0,.slice none 0 0,.slice none 0 0,.int .i64 1,.slice none 0 0,.int .i64 0,.int .i64 0,.slice none 0 0,.slice none 0 0,.slice none 0 0,.int .i64 0,.int .i64 0]:Array Value)[o]? :=fun o=>by rw [cell_of_row _ _ _ _ _ _ h0_4]
 have c1:∀o,w4.cell? ⟨w.heap.size+1,o,none⟩=(#[.int .i64 1,.int .i64 1,.int .i64 1,.int .i64 0,.int .u64 0,.int .i64 0,.int .i64 0,.int .i64 3,.int .i64 0,.int .i64 1,.slice p' 1 cp',.slice q' 1 cq',.int .i64 0,.slice none 0 0,.int .i64 0,.slice none 0 0,.slice none 0 0,.int .i64 1,.slice none 0 0,.int .i64 0,.int .i64 0,.slice none 0 0,.slice none 0 0,.slice none 0 0,.int .i64 0,.int .i64 0]:Array Value)[o]? :=fun o=>by rw [cell_of_row _ _ _ _ _ _ h1_4]
 clear hb4 hB3 h0_3 h1_3 hs3
 go_wp2_with fail
 clear c0 c1
 refine (sameD0 _).mono ?_
 rintro e w5 ⟨rfl,hb5⟩
 have hB5:=hB4.trans (hb5.mono hB4.size)
 go_wp2
 go_ret
 exact ⟨rfl,hB5⟩
end
theorem wpList_load_midG {P:Program} {ops:Array Oper} {rest:List Oper} {op:Oper} {a:Act} {w:World} {Q:Exit→Act→World→Prop} (hw:Region.wanted op (yielded ops a.tmps)=true) (ty:TypeId) (x:Operand) (ho:op.op= .load ty x)
    (b o:Nat) (hx:a.eval x= .pointer (some ⟨b,o,none⟩)) (cs:List Value) (d:TypeDesc) (hc:w.rangeAt b o cs)
    (hu:P.underlying ty=some d) (hd:d.isRow=true) (hi:(P.info? ty).map (·.size)=some cs.length)
    (h:wpList P ops Q rest (a.put op.dst (.agg cs.toArray)) w):wpList P ops Q (op::rest) a w:=
 wpList_step fun K hK=>by
  rw [hw]
  exact wp_load_mid ty x ho b o hx cs d hc hu hd hi (hK _ _ h)
section
variable {w:World} {M M' M2 M3:Nat→Prop} {p q p' q':Option Addr} {cp cq cp' cq':Nat}
theorem sameS1 (hp:Sl M w p cp ([[]]:List (List Int))) (hq:Sl M' w q cq ([[0]]:List (List Int))) (hp':Sl M2 w p' cp' ([[]]:List (List Int))) (hq':Sl M3 w q' cq' ([[0]]:List (List Int))):
    Calls Tryz.prog 11 #[.agg #[.int .i64 1,.int .i64 1,.int .i64 1,.int .i64 0,.int .u64 0,.int .i64 0,.int .i64 0,.int .i64 3,.int .i64 0,.int .i64 1,.slice p 1 cp,.slice q 1 cq,.int .i64 0,.slice none 0 0,.int .i64 0,.slice none 0 0,.slice none 0 0,.int .i64 1,.slice none 0 0,.int .i64 0,.int .i64 0,.slice none 0 0,.slice none 0 0,.slice none 0 0,.int .i64 0,.int .i64 0],.agg #[.int .i64 1,.int .i64 1,.int .i64 1,.int .i64 0,.int .u64 0,.int .i64 0,.int .i64 0,.int .i64 3,.int .i64 0,.int .i64 1,.slice p' 1 cp',.slice q' 1 cq',.int .i64 0,.slice none 0 0,.int .i64 0,.slice none 0 0,.slice none 0 0,.int .i64 1,.slice none 0 0,.int .i64 0,.int .i64 0,.slice none 0 0,.slice none 0 0,.slice none 0 0,.int .i64 0,.int .i64 0]] w fun e w'=>e= .returned (.bool true)∧Below w.heap.size w w':=by
 obtain ⟨w0,hW⟩:∃W,W=(w.alloc (.cells #[.int .i64 1,.int .i64 1,.int .i64 1,.int .i64 0,.int .u64 0,.int .i64 0,.int .i64 0,.int .i64 3,.int .i64 0,.int .i64 1,.slice p 1 cp,.slice q 1 cq,.int .i64 0,.slice none 0 0,.int .i64 0,.slice none 0 0,.slice none 0 0,.int .i64 1,.slice none 0 0,.int .i64 0,.int .i64 0,.slice none 0 0,.slice none 0 0,.slice none 0 0,.int .i64 0,.int .i64 0] 46)).alloc (.cells #[.int .i64 1,.int .i64 1,.int .i64 1,.int .i64 0,.int .u64 0,.int .i64 0,.int .i64 0,.int .i64 3,.int .i64 0,.int .i64 1,.slice p' 1 cp',.slice q' 1 cq',.int .i64 0,.slice none 0 0,.int .i64 0,.slice none 0 0,.slice none 0 0,.int .i64 1,.slice none 0 0,.int .i64 0,.int .i64 0,.slice none 0 0,.slice none 0 0,.slice none 0 0,.int .i64 0,.int .i64 0] 46):=⟨_,rfl⟩
 have hB0:Below w.heap.size w w0:=by rw [hW];(repeat' (first|with_reducible exact Below.refl _ _|with_reducible assumption|with_reducible refine bl_drewN ?_ _|with_reducible refine Below.drew ?_|with_reducible refine Below.alloc ?_ ?_ _|with_reducible refine Below.setCell ?_ ?_ _|omega|(simp;done)|(simp;omega)))
 have h0_0:w0.heap[w.heap.size]? =some (.cells #[.int .i64 1,.int .i64 1,.int .i64 1,.int .i64 0,.int .u64 0,.int .i64 0,.int .i64 0,.int .i64 3,.int .i64 0,.int .i64 1,.slice p 1 cp,.slice q 1 cq,.int .i64 0,.slice none 0 0,.int .i64 0,.slice none 0 0,.slice none 0 0,.int .i64 1,.slice none 0 0,.int .i64 0,.int .i64 0,.slice none 0 0,.slice none 0 0,.slice none 0 0,.int .i64 0,.int .i64 0] 46 (0,0)):=by rw [hW];exact heap_old (heap_alloc_new _ _)
 have h1_0:w0.heap[w.heap.size+1]? =some (.cells #[.int .i64 1,.int .i64 1,.int .i64 1,.int .i64 0,.int .u64 0,.int .i64 0,.int .i64 0,.int .i64 3,.int .i64 0,.int .i64 1,.slice p' 1 cp',.slice q' 1 cq',.int .i64 0,.slice none 0 0,.int .i64 0,.slice none 0 0,.slice none 0 0,.int .i64 1,.slice none 0 0,.int .i64 0,.int .i64 0,.slice none 0 0,.slice none 0 0,.slice none 0 0,.int .i64 0,.int .i64 0] 46 (0,0)):=by rw [hW];exact heap_at (by simp)
 have hs0:Hid (w.heap.size+2≤w0.heap.size):=by unfold Hid;rw [hW];simp
 have he:∀w:World,(binOp .eql 26 (.agg #[.int .i64 1,.int .i64 1,.int .i64 1,.int .i64 0,.int .u64 0,.int .i64 0,.int .i64 0,.int .i64 3]) (.agg #[.int .i64 1,.int .i64 1,.int .i64 1,.int .i64 0,.int .u64 0,.int .i64 0,.int .i64 0,.int .i64 3])).run Tryz.prog w= .ok (.bool true) w:=fun w=>by kernel_rfl
 have HP:=Lib.hid hp
 have HQ:=Lib.hid hq
 have HP':=Lib.hid hp'
 have HQ':=Lib.hid hq'
 clear hp hq hp' hq'
 go_enter Tryz.func11,Tryz.ntmps11
 go_wp2_with fail
 rw [←hW]
 clear hW
 refine (sameO0 _).mono ?_
 rintro e w1 ⟨rfl,hb1⟩
 have hB1:=hB0.trans (hb1.mono hB0.size)
 have h0_1:=(hb1.block _ (by have:=hs0.out;omega)).trans h0_0
 have h1_1:=(hb1.block _ (by have:=hs0.out;omega)).trans h1_0
 have hs1:Hid (w.heap.size+2≤w1.heap.size):=by have:=hb1.size;have:=hs0.out;unfold Hid;omega
 have c0:∀o,w1.cell? ⟨w.heap.size,o,none⟩=(#[.int .i64 1,.int .i64 1,.int .i64 1,.int .i64 0,.int .u64 0,.int .i64 0,.int .i64 0,.int .i64 3,.int .i64 0,.int .i64 1,.slice p 1 cp,.slice q 1 cq,.int .i64 0,.slice none 0 0,.int .i64 0,.slice none 0 0,.slice none 0 0,.int .i64 1,.slice none 0 0,.int .i64 0,.int .i64 0,.slice none 0 0,.slice none 0 0,.slice none 0 0,.int .i64 0,.int .i64 0]:Array Value)[o]? :=fun o=>by rw [cell_of_row _ _ _ _ _ _ h0_1]
 have c1:∀o,w1.cell? ⟨w.heap.size+1,o,none⟩=(#[.int .i64 1,.int .i64 1,.int .i64 1,.int .i64 0,.int .u64 0,.int .i64 0,.int .i64 0,.int .i64 3,.int .i64 0,.int .i64 1,.slice p' 1 cp',.slice q' 1 cq',.int .i64 0,.slice none 0 0,.int .i64 0,.slice none 0 0,.slice none 0 0,.int .i64 1,.slice none 0 0,.int .i64 0,.int .i64 0,.slice none 0 0,.slice none 0 0,.slice none 0 0,.int .i64 0,.int .i64 0]:Array Value)[o]? :=fun o=>by rw [cell_of_row _ _ _ _ _ _ h1_1]
 clear hb1 hB0 h0_0 h1_0 hs0
 go_wp2_with fail
 clear c0 c1
 refine (sameH0 _).mono ?_
 rintro e w2 ⟨rfl,hb2⟩
 have hB2:=hB1.trans (hb2.mono hB1.size)
 have h0_2:=(hb2.block _ (by have:=hs1.out;omega)).trans h0_1
 have h1_2:=(hb2.block _ (by have:=hs1.out;omega)).trans h1_1
 have r0:w2.rangeAt w.heap.size 0 [.int .i64 1,.int .i64 1,.int .i64 1,.int .i64 0,.int .u64 0,.int .i64 0,.int .i64 0,.int .i64 3,.int .i64 0,.int .i64 1,.slice p 1 cp,.slice q 1 cq,.int .i64 0,.slice none 0 0,.int .i64 0,.slice none 0 0,.slice none 0 0,.int .i64 1,.slice none 0 0,.int .i64 0,.int .i64 0,.slice none 0 0,.slice none 0 0,.slice none 0 0,.int .i64 0,.int .i64 0]:=fun j x hx=>by
  rw [Nat.zero_add,cell_of_row _ _ _ _ _ _ h0_2,←hx]
  exact List.getElem?_toArray
 have r1:w2.rangeAt (w.heap.size+1) 0 [.int .i64 1,.int .i64 1,.int .i64 1,.int .i64 0,.int .u64 0,.int .i64 0,.int .i64 0,.int .i64 3,.int .i64 0,.int .i64 1,.slice p' 1 cp',.slice q' 1 cq',.int .i64 0,.slice none 0 0,.int .i64 0,.slice none 0 0,.slice none 0 0,.int .i64 1,.slice none 0 0,.int .i64 0,.int .i64 0,.slice none 0 0,.slice none 0 0,.slice none 0 0,.int .i64 0,.int .i64 0]:=fun j x hx=>by
  rw [Nat.zero_add,cell_of_row _ _ _ _ _ _ h1_2,←hx]
  exact List.getElem?_toArray
 have R0:=Lib.hid r0
 have R1:=Lib.hid r1
 have HL:=Lib.hid (sameL1 (HP.out.below hB2) (HQ.out.below hB2) (HP'.out.below hB2) (HQ'.out.below hB2))
 clear h0_2 h1_2 h0_1 h1_1 hs1 hb2 hB1 he r0 r1
 go_wp2_with (first|refine wpList_load_midG rfl 46 _ rfl w.heap.size 0 rfl [.int .i64 1,.int .i64 1,.int .i64 1,.int .i64 0,.int .u64 0,.int .i64 0,.int .i64 0,.int .i64 3,.int .i64 0,.int .i64 1,.slice p 1 cp,.slice q 1 cq,.int .i64 0,.slice none 0 0,.int .i64 0,.slice none 0 0,.slice none 0 0,.int .i64 1,.slice none 0 0,.int .i64 0,.int .i64 0,.slice none 0 0,.slice none 0 0,.slice none 0 0,.int .i64 0,.int .i64 0] _ R0.out Tryz.underlying46 rfl (by kernel_rfl) ?_|refine wpList_load_midG rfl 46 _ rfl (w.heap.size+1) 0 rfl [.int .i64 1,.int .i64 1,.int .i64 1,.int .i64 0,.int .u64 0,.int .i64 0,.int .i64 0,.int .i64 3,.int .i64 0,.int .i64 1,.slice p' 1 cp',.slice q' 1 cq',.int .i64 0,.slice none 0 0,.int .i64 0,.slice none 0 0,.slice none 0 0,.int .i64 1,.slice none 0 0,.int .i64 0,.int .i64 0,.slice none 0 0,.slice none 0 0,.slice none 0 0,.int .i64 0,.int .i64 0] _ R1.out Tryz.underlying46 rfl (by kernel_rfl) ?_)
 refine (HL.out).mono ?_
 rintro e w3 ⟨rfl,hb3⟩
 have hB3:=hB2.trans (hb3.mono hB2.size)
 go_wp2
 go_ret
 exact ⟨rfl,hB3⟩
end
theorem slLitt53 {M:Nat→Prop} {w:World} {b:Nat} {T:TypeId} {a a':Option Addr} {c c' n n':Nat} {t:Tr} (h:w.heap[b]? =some (.cells #[.slice a n c,.slice a' n' c'] T (0,0))) (hn:n=t.inn.length) (hn':n'=t.out.length) (hM:¬M b) (h1:Sl M w a c t.inn) (h2:Sl M w a' c' t.out):Sl M w (some ⟨b,0,none⟩) 1 [t]:=by
 subst hn hn'
 refine ⟨by simp,by unfold maxLen;omega,fun j x hj=> ?_⟩
 match j,hj with
 |0,hj=>
  simp at hj;subst hj
  refine ⟨b,0,[.slice a t.inn.length c,.slice a' t.out.length c'],rfl,(Array.getElem?_eq_some_iff.1 h).1,hM,⟨a,c,a',c',rfl,h1,h2⟩,fun i u hi=> ?_⟩
  rw [cell_of_row _ _ _ _ _ _ h]
  match i,hi with
  |0,hi=>simpa [GR.sz] using hi
  |1,hi=>simpa [GR.sz] using hi
  |i+2,hi=>simp at hi
theorem lsI_ex:LsI exJ:=by
 have hl:∀l∈exJ,l=exL:=fun l hl=>by simpa using hl
 intro l h
 rw [hl l h]
 refine ⟨fun t ht=> ?_,by decide,by decide+kernel⟩
 obtain rfl:t=⟨[0,0],[1,2]⟩:=by simpa using ht
 exact ⟨⟨fun x hx=>by simp at hx;subst hx;unfold i64;omega,by decide⟩,⟨fun x hx=>by simp at hx;unfold i64;omega,by decide⟩⟩
theorem frL_n:(frameP crS4 exL).length≤500:=by decide+kernel
theorem enL_n:(encTs exL).length≤500:=by decide+kernel
theorem jrn_ex:jrn crS4 exJ=(([]:List By)++frameP crS4 exL)++frameP crS4 exL:=by unfold jrn;simp
theorem awake53_any (w:World):Calls Tryz.prog 7 #[] w fun e w'=>e= .returned (.bool true)∧Below w.heap.size w w':=by
 obtain ⟨w0,hW⟩:∃W,W=((w.alloc (.cells #[.int .i64 0,.int .i64 0] 3)).alloc (.cells #[.int .i64 1,.int .i64 2] 3)).alloc (.cells #[.slice (some ⟨w.heap.size,0,none⟩) 2 2,.slice (some ⟨w.heap.size+1,0,none⟩) 2 2] 72):=⟨_,rfl⟩
 have hB0:Below w.heap.size w w0:=by rw [hW];(repeat' (first|with_reducible exact Below.refl _ _|with_reducible assumption|with_reducible refine bl_drewN ?_ _|with_reducible refine Below.drew ?_|with_reducible refine Below.alloc ?_ ?_ _|with_reducible refine Below.setCell ?_ ?_ _|omega|(simp;done)|(simp;omega)))
 have r0:w0.heap[w.heap.size]? =some (.cells #[.int .i64 0,.int .i64 0] 3 (0,0)):=by rw [hW];(repeat (first|(refine heap_at ?_;(simp;done))|refine heap_old ?_))
 have r1:w0.heap[w.heap.size+1]? =some (.cells #[.int .i64 1,.int .i64 2] 3 (0,0)):=by rw [hW];(repeat (first|(refine heap_at ?_;(simp;done))|refine heap_old ?_))
 have r2:w0.heap[w.heap.size+1+1]? =some (.cells #[.slice (some ⟨w.heap.size,0,none⟩) 2 2,.slice (some ⟨w.heap.size+1,0,none⟩) 2 2] 72 (0,0)):=by rw [hW];(repeat (first|(refine heap_at ?_;(simp;done))|refine heap_old ?_))
 go_enter Tryz.func7,Tryz.ntmps7
 go_wp2_with fail
 rw [←hW]
 clear hW
 have s0:Sl (fun _=>False) w0 (some ⟨w.heap.size,0,none⟩) 2 ([0,0]:List Int):=Sl.lit r0 rfl id (fun y hy=>by simp at hy;subst hy;unfold i64;omega) rfl (by unfold maxLen;omega)
 have s1:Sl (fun _=>False) w0 (some ⟨w.heap.size+1,0,none⟩) 2 ([1,2]:List Int):=Sl.lit r1 rfl id (fun y hy=>by simp at hy;unfold i64;omega) rfl (by unfold maxLen;omega)
 have sL:Sl (fun _=>False) w0 (some ⟨w.heap.size+1+1,0,none⟩) 1 exL:=slLitt53 r2 rfl rfl id s0 s1
 have hsm:Hid (∀t∈exL,t.inn.length<1000000000∧t.out.length<1000000000):=fun t ht=>by
  obtain rfl:t=⟨[0,0],[1,2]⟩:=by simpa using ht
  decide
 have HSL:=Lib.hid sL
 have HC:=Lib.hid (append_any (J:=[]) (l:=exL) (M:=fun _=>False) (Sl.nil _ _ none (c:=0) (by unfold maxLen;omega)) sL hsm (Lib.hid (by have:=enL_n;simp;omega)))
 clear s0 s1 sL r0 r1 r2
 refine (HC.out).mono ?_
 rintro e w1 ⟨a1,c1,J1,rfl,hJ1,hO1,hb1⟩
 have hB1:=hB0.trans (hb1.mono hB0.size)
 have HS1:=Lib.hid (HSL.out.below hb1)
 have hj1:J1.length≤500:=by rw [hJ1.out];simpa using frL_n
 have HC2:=Lib.hid (append_any (J:=J1) (l:=exL) (hO1.slB (M:=fun _=>False) (fun k hk=>hk.elim)) HS1.out hsm (Lib.hid (by have:=enL_n;omega)))
 clear HC hO1 hb1 HSL hB0
 go_wp2_with fail
 refine (HC2.out).mono ?_
 rintro e w2 ⟨a2,c2,J2,rfl,hJ2,hO2,hb2⟩
 have hB2:=hB1.trans (hb2.mono hB1.size)
 have hJ:Hid (J2=jrn crS4 exJ):=by unfold Hid;rw [hJ2.out,hJ1.out,jrn_ex]
 have hSJ:=hO2.slB (M:=fun _=>False) (fun k hk=>hk.elim)
 have hJn:J2.length≤1000:=by rw [hJ.out];exact exJ_n
 have hJ0:0<J2.length:=by rw [hJ.out];exact exJ_0
 have hz0:((J2.length:Int)==0)=false:=by rw [beq_eq_false_iff_ne];omega
 have hcap:J2.length≤c2:=hSJ.1
 have hR:=read_any (ls:=exJ) (p:=J2.length) (Lib.hid lsI_ex) (Lib.hid (Nat.le_of_eq (by rw [hJ.out]))) (Lib.hid (by decide)) hSJ (Lib.hid (by rw [hJ.out,List.take_length]))
 rw [hJ.out,exJ_w2,exJ_e2,exJ_r2,←hJ.out] at hR
 have HR:=Lib.hid hR
 have HJ:=Lib.hid hSJ
 clear HC2 hb2 hB1 hO2 hJ2 hR hSJ HS1 hsm
 go_wp2_with fail
 refine (HR.out).mono ?_
 rintro e w3 ⟨a3,c3,o3,rfl,ho3,hO3,hb3⟩
 have hB3:=hB2.trans (hb3.mono hB2.size)
 have ho3l:Hid (o3.length=2):=by unfold Hid;rw [ho3.out];rfl
 have hJ3:=HJ.out.below hb3
 have hJ3t:=hJ3.taken (n:=J2.length-1) (by omega)
 have hR:=read_any (ls:=exJ) (p:=J2.length-1) (Lib.hid lsI_ex) (Lib.hid (by rw [hJ.out];omega)) (Lib.hid (by decide)) hJ3t (Lib.hid (by rw [hJ.out]))
 have hlt:(J2.take (J2.length-1)).length=J2.length-1:=by rw [List.length_take];omega
 rw [hlt,hJ.out,exJ_w1,exJ_r1,←hJ.out] at hR
 obtain ⟨f,hf⟩:∃f,f=endP crS4 exJ 1:=⟨_,rfl⟩
 have hfl:f<J2.length:=by rw [hf,hJ.out];exact exJ_e1
 rw [←hf] at hR
 have HR2:=Lib.hid hR
 have hpc:J2.length-1≤c2:=by omega
 have HO3:=Lib.hid hO3
 clear HR hR hJ3 hJ3t hlt hb3 hf hB2
 go_wp2_with fail
 refine (HR2.out).mono ?_
 rintro e w4 ⟨a4,c4,o4,rfl,ho4,hO4,hb4⟩
 have hB4:=hB3.trans (hb4.mono hB3.size)
 have ho4l:Hid (o4.length=1):=by unfold Hid;rw [ho4.out];rfl
 have HO4:=Lib.hid hO4
 clear HR2 hO4 hb4 hB3 HJ HO3
 obtain ⟨w5,hw5⟩:∃x,x=w4.alloc (.cells #[.int .i64 1,.int .i64 1,.int .i64 1,.int .i64 0,.int .u64 0,.int .i64 0,.int .i64 0,.int .i64 3] 26):=⟨_,rfl⟩
 have hB5:Below w.heap.size w w5:=by rw [hw5];exact hB4.alloc hB4.size _
 go_wp2_with fail
 rw [←hw5]
 have hz5:w4.heap.size≤w5.heap.size:=by rw [hw5];simp
 have HO5:Hid (Ox w3.heap.size w3.heap.size w5 37 (.slice a4 o4.length c4) o4):=by unfold Hid;rw [hw5];exact HO4.out.later ((Below.refl _ _).alloc (Nat.le_refl _) _)
 clear hw5 HO4 hB4
 refine (snew1 w5).mono ?_
 rintro e w6 ⟨p,cp,q,cq,rfl,hp6,hq6,hb6⟩
 have hB6:=hB5.trans (hb6.mono hB5.size)
 have HO6:=Lib.hid (HO5.out.later hb6)
 have hone:(#[.int .i64 1,.int .i64 1,.int .i64 1,.int .i64 0,.int .u64 0,.int .i64 0,.int .i64 0,.int .i64 3,.int .i64 0,.int .i64 1,.slice p 1 cp,.slice q 1 cq,.int .i64 0,.slice none 0 0,.int .i64 0,.slice none 0 0,.slice none 0 0,.int .i64 1,.slice none 0 0,.int .i64 0,.int .i64 0,.slice none 0 0,.slice none 0 0,.slice none 0 0,.int .i64 0,.int .i64 0]:Array Value).all (·.oneCell')=true:=all_oneCell_toArray (cs:=[.int .i64 1,.int .i64 1,.int .i64 1,.int .i64 0,.int .u64 0,.int .i64 0,.int .i64 0,.int .i64 3,.int .i64 0,.int .i64 1,.slice p 1 cp,.slice q 1 cq,.int .i64 0,.slice none 0 0,.int .i64 0,.slice none 0 0,.slice none 0 0,.int .i64 1,.slice none 0 0,.int .i64 0,.int .i64 0,.slice none 0 0,.slice none 0 0,.slice none 0 0,.int .i64 0,.int .i64 0]) (by
  intro v hv
  repeat (rcases List.mem_cons.1 hv with e|hv;(subst e;rfl))
  cases hv)
 have hb7:=(Below.refl w6.heap.size w6).alloc (Nat.le_refl _) (.cells #[.int .i64 0,.int .i64 0,.int .i64 0,.int .i64 0,.int .u64 0,.int .i64 0,.int .i64 0,.int .i64 0,.int .i64 0,.int .i64 0,.slice none 0 0,.slice none 0 0,.int .i64 0,.slice none 0 0,.int .i64 0,.slice none 0 0,.slice none 0 0,.int .i64 0,.slice none 0 0,.int .i64 0,.int .i64 0,.slice none 0 0,.slice none 0 0,.slice none 0 0,.int .i64 0,.int .i64 0] 46)
 have n7:(w6.alloc (.cells #[.int .i64 0,.int .i64 0,.int .i64 0,.int .i64 0,.int .u64 0,.int .i64 0,.int .i64 0,.int .i64 0,.int .i64 0,.int .i64 0,.slice none 0 0,.slice none 0 0,.int .i64 0,.slice none 0 0,.int .i64 0,.slice none 0 0,.slice none 0 0,.int .i64 0,.slice none 0 0,.int .i64 0,.int .i64 0,.slice none 0 0,.slice none 0 0,.slice none 0 0,.int .i64 0,.int .i64 0] 46)).heap[w6.heap.size]? =some (.cells #[.int .i64 0,.int .i64 0,.int .i64 0,.int .i64 0,.int .u64 0,.int .i64 0,.int .i64 0,.int .i64 0,.int .i64 0,.int .i64 0,.slice none 0 0,.slice none 0 0,.int .i64 0,.slice none 0 0,.int .i64 0,.slice none 0 0,.slice none 0 0,.int .i64 0,.slice none 0 0,.int .i64 0,.int .i64 0,.slice none 0 0,.slice none 0 0,.slice none 0 0,.int .i64 0,.int .i64 0] 46 (0,0)):=heap_alloc_new _ _
 have hth : (w6.alloc (.cells #[.int .i64 0, .int .i64 0, .int .i64 0, .int .i64 0, .int .u64 0, .int .i64 0, .int .i64 0, .int .i64 0, .int .i64 0, .int .i64 0, .slice none 0 0, .slice none 0 0, .int .i64 0, .slice none 0 0, .int .i64 0, .slice none 0 0, .slice none 0 0, .int .i64 0, .slice none 0 0, .int .i64 0, .int .i64 0, .slice none 0 0, .slice none 0 0, .slice none 0 0, .int .i64 0, .int .i64 0] 46)).there w6.heap.size 0 (#[.int .i64 1, .int .i64 1, .int .i64 1, .int .i64 0, .int .u64 0, .int .i64 0, .int .i64 0, .int .i64 3, .int .i64 0, .int .i64 1, .slice p 1 cp, .slice q 1 cq, .int .i64 0, .slice none 0 0, .int .i64 0, .slice none 0 0, .slice none 0 0, .int .i64 1, .slice none 0 0, .int .i64 0, .int .i64 0, .slice none 0 0, .slice none 0 0, .slice none 0 0, .int .i64 0, .int .i64 0] : Array Value).size := fun j hj => ⟨by
     have h8:j<26:=hj
     have hz8:(#[.int .i64 0,.int .i64 0,.int .i64 0,.int .i64 0,.int .u64 0,.int .i64 0,.int .i64 0,.int .i64 0,.int .i64 0,.int .i64 0,.slice none 0 0,.slice none 0 0,.int .i64 0,.slice none 0 0,.int .i64 0,.slice none 0 0,.slice none 0 0,.int .i64 0,.slice none 0 0,.int .i64 0,.int .i64 0,.slice none 0 0,.slice none 0 0,.slice none 0 0,.int .i64 0,.int .i64 0]:Array Value).size=26:=rfl
     rw [Nat.zero_add,cell_of_row _ _ _ _ _ _ n7,Array.getElem?_eq_getElem (by omega)];rfl,by rw [Nat.zero_add];exact frozen_of_row _ _ _ _ _ n7⟩
 obtain ⟨x,hx⟩:∃x,x=(w6.alloc (.cells #[.int .i64 0,.int .i64 0,.int .i64 0,.int .i64 0,.int .u64 0,.int .i64 0,.int .i64 0,.int .i64 0,.int .i64 0,.int .i64 0,.slice none 0 0,.slice none 0 0,.int .i64 0,.slice none 0 0,.int .i64 0,.slice none 0 0,.slice none 0 0,.int .i64 0,.slice none 0 0,.int .i64 0,.int .i64 0,.slice none 0 0,.slice none 0 0,.slice none 0 0,.int .i64 0,.int .i64 0] 46)).setCells w6.heap.size 0 [.int .i64 1,.int .i64 1,.int .i64 1,.int .i64 0,.int .u64 0,.int .i64 0,.int .i64 0,.int .i64 3,.int .i64 0,.int .i64 1,.slice p 1 cp,.slice q 1 cq,.int .i64 0,.slice none 0 0,.int .i64 0,.slice none 0 0,.slice none 0 0,.int .i64 1,.slice none 0 0,.int .i64 0,.int .i64 0,.slice none 0 0,.slice none 0 0,.slice none 0 0,.int .i64 0,.int .i64 0]:=⟨_,rfl⟩
 have nx:x.heap[w6.heap.size]? =some (.cells #[.int .i64 1,.int .i64 1,.int .i64 1,.int .i64 0,.int .u64 0,.int .i64 0,.int .i64 0,.int .i64 3,.int .i64 0,.int .i64 1,.slice p 1 cp,.slice q 1 cq,.int .i64 0,.slice none 0 0,.int .i64 0,.slice none 0 0,.slice none 0 0,.int .i64 1,.slice none 0 0,.int .i64 0,.int .i64 0,.slice none 0 0,.slice none 0 0,.slice none 0 0,.int .i64 0,.int .i64 0] 46 (0,0)):=by rw [hx];exact (setAll_row _ _ _ _ n7 rfl).trans rfl
 have hbx:Below w6.heap.size w6 x:=by rw [hx];exact setAll_below (Nat.le_refl _) _ _ _ hb7
 have hpx:=hp6.below hbx
 have hqx:=hq6.below hbx
 have HOx:=Lib.hid (HO6.out.later hbx)
 have hBx:=hB6.trans (hbx.mono hB6.size)
 have HTH:=Lib.hid hth
 have HONE:=Lib.hid hone
 clear HO5 HO6 hp6 hq6 hb6 hb7 n7 hth hone hbx hB5
 go_upto_region 9 with (refine wpList_store_mid rfl 46 _ _ rfl w6.heap.size 0 #[.int .i64 1,.int .i64 1,.int .i64 1,.int .i64 0,.int .u64 0,.int .i64 0,.int .i64 0,.int .i64 3,.int .i64 0,.int .i64 1,.slice p 1 cp,.slice q 1 cq,.int .i64 0,.slice none 0 0,.int .i64 0,.slice none 0 0,.slice none 0 0,.int .i64 1,.slice none 0 0,.int .i64 0,.int .i64 0,.slice none 0 0,.slice none 0 0,.slice none 0 0,.int .i64 0,.int .i64 0] rfl rfl HTH.out (by kernel_rfl) HONE.out ?_;rw [show (#[.int .i64 1,.int .i64 1,.int .i64 1,.int .i64 0,.int .u64 0,.int .i64 0,.int .i64 0,.int .i64 3,.int .i64 0,.int .i64 1,.slice p 1 cp,.slice q 1 cq,.int .i64 0,.slice none 0 0,.int .i64 0,.slice none 0 0,.slice none 0 0,.int .i64 1,.slice none 0 0,.int .i64 0,.int .i64 0,.slice none 0 0,.slice none 0 0,.slice none 0 0,.int .i64 0,.int .i64 0]:Array Value).toList=[.int .i64 1,.int .i64 1,.int .i64 1,.int .i64 0,.int .u64 0,.int .i64 0,.int .i64 0,.int .i64 3,.int .i64 0,.int .i64 1,.slice p 1 cp,.slice q 1 cq,.int .i64 0,.slice none 0 0,.int .i64 0,.slice none 0 0,.slice none 0 0,.int .i64 1,.slice none 0 0,.int .i64 0,.int .i64 0,.slice none 0 0,.slice none 0 0,.slice none 0 0,.int .i64 0,.int .i64 0] from rfl,←hx];clear hx HTH HONE)
 obtain ⟨G,hG⟩:∃G,G=w6.heap.size:=⟨_,rfl⟩
 have hGw:w.heap.size≤G:=by rw [hG];exact hB6.size
 rw [←hG] at nx ⊢
 clear hG hB6
 have hrx:x.rangeAt G 0 [.int .i64 1,.int .i64 1,.int .i64 1,.int .i64 0,.int .u64 0,.int .i64 0,.int .i64 0,.int .i64 3,.int .i64 0,.int .i64 1,.slice p 1 cp,.slice q 1 cq,.int .i64 0,.slice none 0 0,.int .i64 0,.slice none 0 0,.slice none 0 0,.int .i64 1,.slice none 0 0,.int .i64 0,.int .i64 0,.slice none 0 0,.slice none 0 0,.slice none 0 0,.int .i64 0,.int .i64 0]:=fun j y hy=>by
  rw [Nat.zero_add,cell_of_row _ _ _ _ _ _ nx,←hy]
  exact List.getElem?_toArray
 have HRX:=Lib.hid hrx
 have HEn:=Lib.hid (enc1 hpx hqx)
 have HPX:=Lib.hid hpx
 have HQX:=Lib.hid hqx
 have HNX:=Lib.hid nx
 clear hrx hpx hqx nx
 go_wp2_with (refine wpList_load_mid rfl 46 _ rfl G 0 rfl [.int .i64 1,.int .i64 1,.int .i64 1,.int .i64 0,.int .u64 0,.int .i64 0,.int .i64 0,.int .i64 3,.int .i64 0,.int .i64 1,.slice p 1 cp,.slice q 1 cq,.int .i64 0,.slice none 0 0,.int .i64 0,.slice none 0 0,.slice none 0 0,.int .i64 1,.slice none 0 0,.int .i64 0,.int .i64 0,.slice none 0 0,.slice none 0 0,.slice none 0 0,.int .i64 0,.int .i64 0] _ HRX.out Tryz.underlying46 rfl (by kernel_rfl) ?_)
 refine (HEn.out).mono ?_
 rintro e y ⟨a8,c8,L8,rfl,hL8,hS8,hby⟩
 have hBy:=hBx.trans (hby.mono hBx.size)
 have hGx:G<x.heap.size:=(Array.getElem?_eq_some_iff.1 HNX.out).1
 have HNY:=Lib.hid ((hby.block _ hGx).trans HNX.out)
 have HPY:=Lib.hid (HPX.out.below hby)
 have HQY:=Lib.hid (HQX.out.below hby)
 have HOy:=Lib.hid (HOx.out.later hby)
 have HD:=Lib.hid (dec1 hS8 hL8)
 have hL80:0<L8.length:=by rw [hL8.out];unfold sealP;simp [crS4_len]
 clear HRX HEn HPX HQX HNX HOx hBx hby hS8
 go_wp2_with fail
 refine (HD.out).mono ?_
 rintro e z ⟨p',cp',q',cq',rfl,hpz,hqz,hbz⟩
 have hBz:=hBy.trans (hbz.mono hBy.size)
 have hGy:G<y.heap.size:=(Array.getElem?_eq_some_iff.1 HNY.out).1
 have HNZ:=Lib.hid ((hbz.block _ hGy).trans HNY.out)
 have HPZ:=Lib.hid (HPY.out.below hbz)
 have HQZ:=Lib.hid (HQY.out.below hbz)
 have HOz:=Lib.hid (HOy.out.later hbz)
 have hone:(#[.int .i64 1,.int .i64 1,.int .i64 1,.int .i64 0,.int .u64 0,.int .i64 0,.int .i64 0,.int .i64 3,.int .i64 0,.int .i64 1,.slice p' 1 cp',.slice q' 1 cq',.int .i64 0,.slice none 0 0,.int .i64 0,.slice none 0 0,.slice none 0 0,.int .i64 1,.slice none 0 0,.int .i64 0,.int .i64 0,.slice none 0 0,.slice none 0 0,.slice none 0 0,.int .i64 0,.int .i64 0]:Array Value).all (·.oneCell')=true:=all_oneCell_toArray (cs:=[.int .i64 1,.int .i64 1,.int .i64 1,.int .i64 0,.int .u64 0,.int .i64 0,.int .i64 0,.int .i64 3,.int .i64 0,.int .i64 1,.slice p' 1 cp',.slice q' 1 cq',.int .i64 0,.slice none 0 0,.int .i64 0,.slice none 0 0,.slice none 0 0,.int .i64 1,.slice none 0 0,.int .i64 0,.int .i64 0,.slice none 0 0,.slice none 0 0,.slice none 0 0,.int .i64 0,.int .i64 0]) (by
  intro v hv
  repeat (rcases List.mem_cons.1 hv with e|hv;(subst e;rfl))
  cases hv)
 have hb9:=(Below.refl z.heap.size z).alloc (Nat.le_refl _) (.cells #[.int .i64 0,.int .i64 0,.int .i64 0,.int .i64 0,.int .u64 0,.int .i64 0,.int .i64 0,.int .i64 0,.int .i64 0,.int .i64 0,.slice none 0 0,.slice none 0 0,.int .i64 0,.slice none 0 0,.int .i64 0,.slice none 0 0,.slice none 0 0,.int .i64 0,.slice none 0 0,.int .i64 0,.int .i64 0,.slice none 0 0,.slice none 0 0,.slice none 0 0,.int .i64 0,.int .i64 0] 46)
 have n9:(z.alloc (.cells #[.int .i64 0,.int .i64 0,.int .i64 0,.int .i64 0,.int .u64 0,.int .i64 0,.int .i64 0,.int .i64 0,.int .i64 0,.int .i64 0,.slice none 0 0,.slice none 0 0,.int .i64 0,.slice none 0 0,.int .i64 0,.slice none 0 0,.slice none 0 0,.int .i64 0,.slice none 0 0,.int .i64 0,.int .i64 0,.slice none 0 0,.slice none 0 0,.slice none 0 0,.int .i64 0,.int .i64 0] 46)).heap[z.heap.size]? =some (.cells #[.int .i64 0,.int .i64 0,.int .i64 0,.int .i64 0,.int .u64 0,.int .i64 0,.int .i64 0,.int .i64 0,.int .i64 0,.int .i64 0,.slice none 0 0,.slice none 0 0,.int .i64 0,.slice none 0 0,.int .i64 0,.slice none 0 0,.slice none 0 0,.int .i64 0,.slice none 0 0,.int .i64 0,.int .i64 0,.slice none 0 0,.slice none 0 0,.slice none 0 0,.int .i64 0,.int .i64 0] 46 (0,0)):=heap_alloc_new _ _
 have hth : (z.alloc (.cells #[.int .i64 0, .int .i64 0, .int .i64 0, .int .i64 0, .int .u64 0, .int .i64 0, .int .i64 0, .int .i64 0, .int .i64 0, .int .i64 0, .slice none 0 0, .slice none 0 0, .int .i64 0, .slice none 0 0, .int .i64 0, .slice none 0 0, .slice none 0 0, .int .i64 0, .slice none 0 0, .int .i64 0, .int .i64 0, .slice none 0 0, .slice none 0 0, .slice none 0 0, .int .i64 0, .int .i64 0] 46)).there z.heap.size 0 (#[.int .i64 1, .int .i64 1, .int .i64 1, .int .i64 0, .int .u64 0, .int .i64 0, .int .i64 0, .int .i64 3, .int .i64 0, .int .i64 1, .slice p' 1 cp', .slice q' 1 cq', .int .i64 0, .slice none 0 0, .int .i64 0, .slice none 0 0, .slice none 0 0, .int .i64 1, .slice none 0 0, .int .i64 0, .int .i64 0, .slice none 0 0, .slice none 0 0, .slice none 0 0, .int .i64 0, .int .i64 0] : Array Value).size := fun j hj => ⟨by
     have h8:j<26:=hj
     have hz8:(#[.int .i64 0,.int .i64 0,.int .i64 0,.int .i64 0,.int .u64 0,.int .i64 0,.int .i64 0,.int .i64 0,.int .i64 0,.int .i64 0,.slice none 0 0,.slice none 0 0,.int .i64 0,.slice none 0 0,.int .i64 0,.slice none 0 0,.slice none 0 0,.int .i64 0,.slice none 0 0,.int .i64 0,.int .i64 0,.slice none 0 0,.slice none 0 0,.slice none 0 0,.int .i64 0,.int .i64 0]:Array Value).size=26:=rfl
     rw [Nat.zero_add,cell_of_row _ _ _ _ _ _ n9,Array.getElem?_eq_getElem (by omega)];rfl,by rw [Nat.zero_add];exact frozen_of_row _ _ _ _ _ n9⟩
 obtain ⟨u,hu⟩:∃u,u=(z.alloc (.cells #[.int .i64 0,.int .i64 0,.int .i64 0,.int .i64 0,.int .u64 0,.int .i64 0,.int .i64 0,.int .i64 0,.int .i64 0,.int .i64 0,.slice none 0 0,.slice none 0 0,.int .i64 0,.slice none 0 0,.int .i64 0,.slice none 0 0,.slice none 0 0,.int .i64 0,.slice none 0 0,.int .i64 0,.int .i64 0,.slice none 0 0,.slice none 0 0,.slice none 0 0,.int .i64 0,.int .i64 0] 46)).setCells z.heap.size 0 [.int .i64 1,.int .i64 1,.int .i64 1,.int .i64 0,.int .u64 0,.int .i64 0,.int .i64 0,.int .i64 3,.int .i64 0,.int .i64 1,.slice p' 1 cp',.slice q' 1 cq',.int .i64 0,.slice none 0 0,.int .i64 0,.slice none 0 0,.slice none 0 0,.int .i64 1,.slice none 0 0,.int .i64 0,.int .i64 0,.slice none 0 0,.slice none 0 0,.slice none 0 0,.int .i64 0,.int .i64 0]:=⟨_,rfl⟩
 have nu:u.heap[z.heap.size]? =some (.cells #[.int .i64 1,.int .i64 1,.int .i64 1,.int .i64 0,.int .u64 0,.int .i64 0,.int .i64 0,.int .i64 3,.int .i64 0,.int .i64 1,.slice p' 1 cp',.slice q' 1 cq',.int .i64 0,.slice none 0 0,.int .i64 0,.slice none 0 0,.slice none 0 0,.int .i64 1,.slice none 0 0,.int .i64 0,.int .i64 0,.slice none 0 0,.slice none 0 0,.slice none 0 0,.int .i64 0,.int .i64 0] 46 (0,0)):=by rw [hu];exact (setAll_row _ _ _ _ n9 rfl).trans rfl
 have hbu:Below z.heap.size z u:=by rw [hu];exact setAll_below (Nat.le_refl _) _ _ _ hb9
 have hGz:G<z.heap.size:=(Array.getElem?_eq_some_iff.1 HNZ.out).1
 have HNU:=Lib.hid ((hbu.block _ hGz).trans HNZ.out)
 have HPU:=Lib.hid (HPZ.out.below hbu)
 have HQU:=Lib.hid (HQZ.out.below hbu)
 have HPU':=Lib.hid (hpz.below hbu)
 have HQU':=Lib.hid (hqz.below hbu)
 have HOu:=Lib.hid (HOz.out.later hbu)
 have hBu:=hBz.trans (hbu.mono hBz.size)
 have HTH:=Lib.hid hth
 have HONE:=Lib.hid hone
 have HNU2:=Lib.hid nu
 clear HOy HPY HQY HNY hpz hqz hbz hone hb9 n9 hth nu hbu HPZ HQZ HOz HNZ hBy HD
 go_upto_region 11 with (refine wpList_store_mid rfl 46 _ _ rfl z.heap.size 0 #[.int .i64 1,.int .i64 1,.int .i64 1,.int .i64 0,.int .u64 0,.int .i64 0,.int .i64 0,.int .i64 3,.int .i64 0,.int .i64 1,.slice p' 1 cp',.slice q' 1 cq',.int .i64 0,.slice none 0 0,.int .i64 0,.slice none 0 0,.slice none 0 0,.int .i64 1,.slice none 0 0,.int .i64 0,.int .i64 0,.slice none 0 0,.slice none 0 0,.slice none 0 0,.int .i64 0,.int .i64 0] rfl rfl HTH.out (by kernel_rfl) HONE.out ?_;rw [show (#[.int .i64 1,.int .i64 1,.int .i64 1,.int .i64 0,.int .u64 0,.int .i64 0,.int .i64 0,.int .i64 3,.int .i64 0,.int .i64 1,.slice p' 1 cp',.slice q' 1 cq',.int .i64 0,.slice none 0 0,.int .i64 0,.slice none 0 0,.slice none 0 0,.int .i64 1,.slice none 0 0,.int .i64 0,.int .i64 0,.slice none 0 0,.slice none 0 0,.slice none 0 0,.int .i64 0,.int .i64 0]:Array Value).toList=[.int .i64 1,.int .i64 1,.int .i64 1,.int .i64 0,.int .u64 0,.int .i64 0,.int .i64 0,.int .i64 3,.int .i64 0,.int .i64 1,.slice p' 1 cp',.slice q' 1 cq',.int .i64 0,.slice none 0 0,.int .i64 0,.slice none 0 0,.slice none 0 0,.int .i64 1,.slice none 0 0,.int .i64 0,.int .i64 0,.slice none 0 0,.slice none 0 0,.slice none 0 0,.int .i64 0,.int .i64 0] from rfl,←hu];clear hu HTH HONE)
 obtain ⟨H,hH⟩:∃H,H=z.heap.size:=⟨_,rfl⟩
 rw [←hH] at HNU2 ⊢
 clear hH
 have x1:((o3.length:Int)==2)=true:=by rw [ho3l.out];rfl
 have x2:((o4.length:Int)==1)=true:=by rw [ho4l.out];rfl
 have x3:decide ((f:Int)<(J2.length:Int))=true:=by rw [decide_eq_true_iff];omega
 have x4:decide ((0:Int)<(L8.length:Int))=true:=by rw [decide_eq_true_iff];omega
 have x5:((J2.length:Int)==(J2.length:Int))=true:=by simp
 have ho40:0<o4.length:=by rw [ho4l.out];decide
 have hSo:=HOu.out.toSl (Nat.le_refl _)
 obtain ⟨b0,q0,p1,t,d1,rfl,e1,ht,s1⟩:=hSo.at_row ho40
 obtain rfl:t=exL:=by have h:=ht.out;rw [ho4.out] at h;simpa using h.symm
 rw [Nat.add_zero] at e1
 obtain ⟨b1,q1,p2,d2,p3,d3,t',rfl,e2,e3,ht',s2,s3⟩:=s1.at_tr (show 0<exL.length by decide)
 obtain rfl:t'=⟨[0,0],[1,2]⟩:=by have h:=ht'.out;simpa using h.symm
 rw [Nat.zero_mul,Nat.add_zero] at e2 e3
 have e1':u.cell? ⟨b0,q0,none⟩=some (.slice (some ⟨b1,q1,none⟩) 1 d1):=e1
 have e3':u.cell? ⟨b1,q1+1,none⟩=some (.slice p3 2 d3):=e3
 have hbi:=(Below.refl u.heap.size u).alloc (Nat.le_refl _) (.cells #[.int .i64 1,.int .i64 2] 3)
 have hsi:Sl (fun _=>False) (u.alloc (.cells #[.int .i64 1,.int .i64 2] 3)) (some ⟨u.heap.size,0,none⟩) 2 ([1,2]:List Int):=Sl.lit (heap_alloc_new _ _) rfl id (fun y hy=>by simp at hy;unfold i64;omega) rfl (by unfold maxLen;omega)
 have HI:=Lib.hid (ints_yes (xs:=[1,2]) (ys:=[1,2]) ((s3.below hbi).anti (M':=fun _=>False) fun _ _ h=>h.elim) hsi rfl)
 clear e1 e2 e3 s1 s2 s3 hSo ht ht' hsi
 go_wp2_with fail
 refine (HI.out).mono ?_
 rintro e v0 ⟨rfl,n,hv0⟩
 obtain ⟨v,hv⟩:∃v,v=v0:=⟨_,rfl⟩
 have hbv:Below u.heap.size u v0:=by rw [hv0];exact bl_drewN hbi n
 have hGu:G<u.heap.size:=(Array.getElem?_eq_some_iff.1 HNU.out).1
 have hHu:H<u.heap.size:=(Array.getElem?_eq_some_iff.1 HNU2.out).1
 have ng:=(hbv.block _ hGu).trans HNU.out
 have nh:=(hbv.block _ hHu).trans HNU2.out
 have rg:v0.rangeAt G 0 [.int .i64 1,.int .i64 1,.int .i64 1,.int .i64 0,.int .u64 0,.int .i64 0,.int .i64 0,.int .i64 3,.int .i64 0,.int .i64 1,.slice p 1 cp,.slice q 1 cq,.int .i64 0,.slice none 0 0,.int .i64 0,.slice none 0 0,.slice none 0 0,.int .i64 1,.slice none 0 0,.int .i64 0,.int .i64 0,.slice none 0 0,.slice none 0 0,.slice none 0 0,.int .i64 0,.int .i64 0]:=fun j y hy=>by
  rw [Nat.zero_add,cell_of_row _ _ _ _ _ _ ng,←hy]
  exact List.getElem?_toArray
 have rh:v0.rangeAt H 0 [.int .i64 1,.int .i64 1,.int .i64 1,.int .i64 0,.int .u64 0,.int .i64 0,.int .i64 0,.int .i64 3,.int .i64 0,.int .i64 1,.slice p' 1 cp',.slice q' 1 cq',.int .i64 0,.slice none 0 0,.int .i64 0,.slice none 0 0,.slice none 0 0,.int .i64 1,.slice none 0 0,.int .i64 0,.int .i64 0,.slice none 0 0,.slice none 0 0,.slice none 0 0,.int .i64 0,.int .i64 0]:=fun j y hy=>by
  rw [Nat.zero_add,cell_of_row _ _ _ _ _ _ nh,←hy]
  exact List.getElem?_toArray
 have HRG:=Lib.hid rg
 have HRH:=Lib.hid rh
 have HS:=Lib.hid (sameS1 (HPU.out.below hbv) (HQU.out.below hbv) (HPU'.out.below hbv) (HQU'.out.below hbv))
 have hBv:=hBu.trans (hbv.mono hBu.size)
 clear HI hv0 hv rg rh ng nh e1' e3' hbi hbv
 go_wp2_with (first|refine wpList_load_midG rfl 46 _ rfl G 0 rfl [.int .i64 1,.int .i64 1,.int .i64 1,.int .i64 0,.int .u64 0,.int .i64 0,.int .i64 0,.int .i64 3,.int .i64 0,.int .i64 1,.slice p 1 cp,.slice q 1 cq,.int .i64 0,.slice none 0 0,.int .i64 0,.slice none 0 0,.slice none 0 0,.int .i64 1,.slice none 0 0,.int .i64 0,.int .i64 0,.slice none 0 0,.slice none 0 0,.slice none 0 0,.int .i64 0,.int .i64 0] _ HRG.out Tryz.underlying46 rfl (by kernel_rfl) ?_|refine wpList_load_midG rfl 46 _ rfl H 0 rfl [.int .i64 1,.int .i64 1,.int .i64 1,.int .i64 0,.int .u64 0,.int .i64 0,.int .i64 0,.int .i64 3,.int .i64 0,.int .i64 1,.slice p' 1 cp',.slice q' 1 cq',.int .i64 0,.slice none 0 0,.int .i64 0,.slice none 0 0,.slice none 0 0,.int .i64 1,.slice none 0 0,.int .i64 0,.int .i64 0,.slice none 0 0,.slice none 0 0,.slice none 0 0,.int .i64 0,.int .i64 0] _ HRH.out Tryz.underlying46 rfl (by kernel_rfl) ?_)
 refine (HS.out).mono ?_
 rintro e v1 ⟨rfl,hb1'⟩
 have hBF:=hBv.trans (hb1'.mono hBv.size)
 clear HS HRG HRH hb1'
 go_wp2
 go_ret
 exact ⟨rfl,hBF⟩
end Go.Proofs.YtlmfbjiejodalaaGreatDoor
