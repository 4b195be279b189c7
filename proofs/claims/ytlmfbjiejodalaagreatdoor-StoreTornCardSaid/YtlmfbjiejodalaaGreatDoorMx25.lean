/- Several texts, one behind the other. Conditions: as each of them says. -/
import Derived.Test.YtlmfbjiejodalaaGreatDoorMx21
import Derived.Test.YtlmfbjiejodalaaGreatDoorMx14
import Derived.Test.YtlmfbjiejodalaaGreatDoorMx9
import Derived.Test.YtlmfbjiejodalaaGreatDoorMx7
import Derived.Test.YtlmfbjiejodalaaGreatDoorMx3
set_option maxRecDepth 100000
set_option maxHeartbeats 32000000
namespace Go.Proofs.YtlmfbjiejodalaaGreatDoor
open Go.RowKit
abbrev tbV (n:Int) (p:Option Addr) (np cp:Nat) (q:Option Addr) (nq cq:Nat):Value:= .agg #[.int .i64 n,.slice p np cp,.slice q nq cq]
abbrev tb1 (p:Option Addr) (cp:Nat) (q:Option Addr) (cq:Nat):Value:=tbV 1 p 1 cp q 1 cq
section
variable {w:World} {M M':Nat→Prop} {p q:Option Addr} {cp cq:Nat}
theorem key_nil (a:Option Addr) (c:Nat) (w:World):Calls Tryz.prog 148 #[.slice a 0 c] w fun e w'=>e= .returned (.string ⟨#[]⟩)∧Below w.heap.size w w':=by
 have kc:=run_convert_bytes_nil (P:=Tryz.prog) w 49 5 Tryz.underlying49 Tryz.underlying5 0 0 9 Tryz.underlying9
 go_enter Tryz.func148,Tryz.ntmps148
 go_wp2
 go_loop [3,8] (fun b v=>b= .slice none 0 0∧v= .int .i64 0) (fun _ _=>0)
 case atStart=>exact ⟨rfl,rfl⟩
 case round=>
  obtain ⟨rfl,rfl⟩:=hrel
  go_wp2
  go_ret
  exact ⟨rfl,Below.refl _ _⟩
theorem ascends0 (a:Option Addr) (n c:Nat) (w:World):Calls Tryz.prog 149 #[.slice a n c,.int .i64 0] w fun e w'=>e= .returned (.bool true)∧Below w.heap.size w w':=by
 go_enter Tryz.func149,Tryz.ntmps149
 go_wp2
 go_quiet (fail)
 go_wp2
 go_ret
 exact ⟨rfl,bl_drewN (Below.refl _ _) _⟩
theorem longest1 {a:Option Addr} {c:Nat} {l:List Int} (h:Sl M w a c [l]) (hl:l.length<1000):Calls Tryz.prog 150 #[.slice a 1 c] w fun e w'=>e= .returned (.int .i64 l.length)∧w'=w:=by
 obtain ⟨b0,o0,p1,t,d1,rfl,e1,ht,s1⟩:=h.at_row (show 0<[l].length by simp)
 obtain rfl:l=t:=by have:=ht.out;simpa using this
 rw [Nat.add_zero] at e1
 clear ht
 go_enter Tryz.func150,Tryz.ntmps150
 go_wp2
 go_loop [3,8] (fun v i=>(v= .int .i64 0∧i= .int .i64 0)∨(v= .int .i64 l.length∧i= .int .i64 1)) (fun _ i=>1-(intOf i).toNat)
 case atStart=>exact .inl ⟨rfl,rfl⟩
 case round=>
  rcases hrel with ⟨rfl,rfl⟩|⟨rfl,rfl⟩
  ·go_wp2
   all_goals
    go_round
    case rel=>exact .inr ⟨by go_num,by go_num⟩
    case measure=>simp [intOf]
  go_wp2
  go_ret
  exact ⟨rfl,rfl⟩
theorem box_new (w:World) (vs:Array Value) (T:TypeId) (o:Nat):(w.alloc (.cells vs T)).cell? ⟨w.heap.size,o,none⟩=vs[o]? :=by
 rw [cell_of_row _ _ _ _ _ _ (heap_alloc_new w _)]
theorem box_bel {w':World} {b:Nat} {v:Nat→Option Value} (h:∀o,w.cell? ⟨b,o,none⟩=v o) (hb:Below w.heap.size w w') (hlt:b<w.heap.size) (o:Nat):w'.cell? ⟨b,o,none⟩=v o:=(hb.cell (by simpa using hlt)).trans (h o)
def MapS (w:World) (b n:Nat):Prop:=n<1000000∧∃D:DataW Unit,w.ownsMap Tryz.prog 9 (plainElem Tryz.prog 4) b n D
theorem MapS.made (w:World):MapS (w.alloc (.map #[] 0)) w.heap.size 0:=⟨by decide,.map [],World.ownsMap_made _ _ _ _⟩
theorem MapS.kept {w':World} {b n:Nat} (h:MapS w b n) (hb:w'.heap[b]? =w.heap[b]?):MapS w' b n:=by
 obtain ⟨hn,D,es,clock,h1,h2⟩:=h
 exact ⟨hn,D,es,clock,hb.trans h1,h2⟩
theorem MapS.put {b n:Nat} (h:MapS w b n) (hn2:n+1<1000000) {s:ByteArray} (hs:s.size<100000):
    ∃w',(Instr.mapUpdate 208 (.map (some b)) (.string s) (.bool true)).run Tryz.prog w= .ok () w'∧MapS w' b (n+1)∧w.grownBy w' (some b):=by
 obtain ⟨hn,D,h1⟩:=h
 have K:=Maps.string_keyed (P:=Tryz.prog) Tryz.underlying9
 have hk:keyOf Tryz.prog 9 (.string s)=some (.string s.data.toList):=WideMaps.keyOf_string_mk Tryz.underlying9 (by unfold maxLen;omega)
 obtain ⟨w',hrun,r1,r2⟩:=h1.update K Tryz.underlying208 (by unfold maxLen;omega) hk (plainElem_bool Tryz.underlying4 true)
 exact ⟨w',hrun,⟨hn2,_,r1⟩,r2⟩
theorem tvalid1 (hp:Sl M w p cp ([[]]:List (List Int))) (hq:Sl M' w q cq ([[0]]:List (List Int))):
    Calls Tryz.prog 102 #[tb1 p cp q cq] w fun e w'=>e= .returned (.int .i64 0)∧Below w.heap.size w w':=by
 obtain ⟨b0,o0,p1,t,d1,rfl,e1,ht,s1⟩:=hp.at_row (show 0<([[]]:List (List Int)).length by simp)
 obtain rfl:t=[]:=by have:=ht.out;simpa using this.symm
 obtain ⟨b2,o2,p3,t3,d3,rfl,e3,ht3,s3⟩:=hq.at_row (show 0<([[0]]:List (List Int)).length by simp)
 obtain rfl:t3=[0]:=by have:=ht3.out;simpa using this.symm
 have hmm:= @run_makeMap Tryz.prog
 have HP:=Lib.hid hp
 have HQ:=Lib.hid hq
 have S1:=Lib.hid s1
 have S3:=Lib.hid s3
 rw [Nat.add_zero] at e1 e3
 have l1:=cell_lt e1
 have l3:=cell_lt e3
 have HC1:Hid (∀w',Below w.heap.size w w'→Calls Tryz.prog 91 #[.slice p1 0 d1,.int .i64 1] w' fun e w2=>e= .returned (.int .i64 0)∧Below w'.heap.size w' w2):=fun w' hb=>(wcheck_any (S1.out.below hb) 1).mono fun e w2 h=>⟨by rw [h.1];simp [wErr],h.2⟩
 have HC3:Hid (∀w',Below w.heap.size w w'→Calls Tryz.prog 91 #[.slice p3 1 d3,.int .i64 1] w' fun e w2=>e= .returned (.int .i64 0)∧Below w'.heap.size w' w2):=fun w' hb=>(wcheck_any (S3.out.below hb) 1).mono fun e w2 h=>⟨by rw [h.1];simp [wErr],h.2⟩
 have HL1:Hid (∀w',Below w.heap.size w w'→Calls Tryz.prog 150 #[.slice (some ⟨b0,o0,none⟩) 1 cp] w' fun e w2=>e= .returned (.int .i64 0)∧w2=w'):=fun w' hb=>longest1 (HP.out.below hb) (by simp)
 have HL3:Hid (∀w',Below w.heap.size w w'→Calls Tryz.prog 150 #[.slice (some ⟨b2,o2,none⟩) 1 cq] w' fun e w2=>e= .returned (.int .i64 1)∧w2=w'):=fun w' hb=>longest1 (HQ.out.below hb) (by simp)
 clear ht ht3 hp hq s1 s3
 go_enter Tryz.func102,Tryz.ntmps102
 go_wp2
 go_quiet (fail)
 obtain ⟨w1,hw1⟩:∃w1,w1=((w.alloc (.cells #[.int .i64 1,.slice (some ⟨b0,o0,none⟩) 1 cp,.slice (some ⟨b2,o2,none⟩) 1 cq] 29)).drewN nq):=⟨_,rfl⟩
 have hB1:Below w.heap.size w w1:=hw1▸bl_drewN ((Below.refl w.heap.size w).alloc (Nat.le_refl _) _) nq
 have hx1:∀o,w1.cell? ⟨w.heap.size,o,none⟩=(#[.int .i64 1,.slice (some ⟨b0,o0,none⟩) 1 cp,.slice (some ⟨b2,o2,none⟩) 1 cq]:Array Value)[o]? :=fun o=>by rw [hw1];exact box_new w _ _ o
 have hz1:w1.heap.size=w.heap.size+1:=by rw [hw1];simp
 rw [←hw1]
 clear hw1
 have hB2:=hB1.alloc (by omega) (.map #[] 0)
 have hM2:=MapS.made w1
 have hx2:∀o,(w1.alloc (.map #[] 0)).cell? ⟨w.heap.size,o,none⟩=(#[.int .i64 1,.slice (some ⟨b0,o0,none⟩) 1 cp,.slice (some ⟨b2,o2,none⟩) 1 cq]:Array Value)[o]? :=box_bel hx1 ((Below.refl w1.heap.size w1).alloc (Nat.le_refl _) _) (by omega)
 have hz2:(w1.alloc (.map #[] 0)).heap.size=w.heap.size+2:=by simp [hz1]
 rw [hz1] at hM2
 have c1:=(hB2.cell (p:=⟨b0,o0,none⟩) l1).trans e1
 go_wp2
 go_loopw [53] (fun i wr=>∃k:Int,(k=0∨k=1)∧i= .int .i64 k∧(∃n,n≤1∧(k=0→n=0)∧MapS wr (w.heap.size+1) n)∧(∀o,wr.cell? ⟨w.heap.size,o,none⟩=(#[.int .i64 1,.slice (some ⟨b0,o0,none⟩) 1 cp,.slice (some ⟨b2,o2,none⟩) 1 cq]:Array Value)[o]?)∧Below w.heap.size w wr∧w.heap.size+2≤wr.heap.size) (fun i _=>1-(intOf i).toNat)
 case atStart=>exact ⟨0,.inl rfl,rfl,⟨0,by omega,fun _=>rfl,hM2⟩,hx2,hB2,by omega⟩
 case round=>
  clear hB1 hx1 hz1 hB2 hM2 hx2 hz2 c1
  obtain ⟨k,hk,rfl,⟨n,hn,hn0,hM⟩,hx,hB,hz⟩:=hrel
  obtain ⟨wo,rfl⟩:∃wo:World,wo=wr:=⟨_,rfl⟩
  have c1:=(hB.cell (p:=⟨b0,o0,none⟩) l1).trans e1
  have c3:=(hB.cell (p:=⟨b2,o2,none⟩) l3).trans e3
  rcases hk with rfl|rfl
  ·have hnz:=hn0 rfl
   clear hn0
   go_wp2_with fail
   refine (key_nil _ _ _).mono ?_
   rintro e w2 ⟨rfl,hb2⟩
   obtain ⟨w3,hrun3,hM3,hg3⟩:=(hM.kept (hb2.block _ (by omega))).put (s:=⟨#[]⟩) (by omega) (by decide)
   have hB3:=hB.trans ((hb2.mono (by omega)).trans (((Below.refl (w.heap.size+1) w2).grown hg3 (by have:=hb2.size;omega) (fun k hk=>by cases hk;exact Nat.le_refl _)).mono (by omega)))
   have hx3:∀o,w3.cell? ⟨w.heap.size,o,none⟩=(#[.int .i64 1,.slice (some ⟨b0,o0,none⟩) 1 cp,.slice (some ⟨b2,o2,none⟩) 1 cq]:Array Value)[o]? :=fun o=>by
    rw [←hx o,←hb2.cell (by simp;omega)]
    have:=hg3.block w.heap.size (by have:=hb2.size;omega) (fun e=>by simp at e)
    unfold World.cell?;rw [this]
   have hz3:w.heap.size+2≤w3.heap.size:=by have:=hb2.size;have:=hg3.size;omega
   clear hM hx hB hz hb2 hg3
   go_wp2
   go_roundw
   case rel=>exact ⟨1,.inr rfl,by go_num,⟨n+1,by omega,fun h=>by omega,hM3⟩,hx3,hB3,hz3⟩
   case measure=>simp [intOf]
  go_wp2
  go_loopw [64] (fun i wr=>∃k:Int,(k=0∨k=1)∧i= .int .i64 k∧(∀o,wr.cell? ⟨w.heap.size,o,none⟩=(#[.int .i64 1,.slice (some ⟨b0,o0,none⟩) 1 cp,.slice (some ⟨b2,o2,none⟩) 1 cq]:Array Value)[o]?)∧Below w.heap.size w wr∧w.heap.size+2≤wr.heap.size) (fun i _=>1-(intOf i).toNat)
  case atStart=>exact ⟨0,.inl rfl,rfl,hx,hB,by omega⟩
  case round=>
   clear hM hx hB hz c1 c3
   obtain ⟨k,hk,rfl,hx,hB,hz⟩:=hrel
   obtain ⟨w5,rfl⟩:∃w5:World,w5=wr:=⟨_,rfl⟩
   have c1:=(hB.cell (p:=⟨b0,o0,none⟩) l1).trans e1
   have c3:=(hB.cell (p:=⟨b2,o2,none⟩) l3).trans e3
   rcases hk with rfl|rfl
   ·go_wp2_with fail
    refine (HC1.out _ hB).mono ?_
    rintro e w6 ⟨rfl,hb6⟩
    have hx6:=box_bel hx hb6 (by omega)
    have hB6:=hB.trans (hb6.mono (by omega))
    have hz6:w.heap.size+2≤w6.heap.size:=by have:=hb6.size;omega
    clear hx hB hz hb6 c1 c3
    go_wp2_with fail
    refine (ascends0 _ _ _ _).mono ?_
    rintro e w7 ⟨rfl,hb7⟩
    have hx7:=box_bel hx6 hb7 (by omega)
    have hB7:=hB6.trans (hb7.mono (by omega))
    have hz7:w.heap.size+2≤w7.heap.size:=by have:=hb7.size;omega
    clear hx6 hB6 hz6 hb7
    go_wp2
    go_roundw
    case rel=>exact ⟨1,.inr rfl,by go_num,hx7,hB7,hz7⟩
    case measure=>simp [intOf]
   go_wp2
   go_loopw [108] (fun i wr=>∃k:Int,(k=0∨k=1)∧i= .int .i64 k∧(∀o,wr.cell? ⟨w.heap.size,o,none⟩=(#[.int .i64 1,.slice (some ⟨b0,o0,none⟩) 1 cp,.slice (some ⟨b2,o2,none⟩) 1 cq]:Array Value)[o]?)∧Below w.heap.size w wr∧w.heap.size+2≤wr.heap.size) (fun i _=>1-(intOf i).toNat)
   case atStart=>exact ⟨0,.inl rfl,rfl,hx,hB,by omega⟩
   case round=>
    clear hx hB hz c1 c3
    obtain ⟨k,hk,rfl,hx,hB,hz⟩:=hrel
    obtain ⟨w8,rfl⟩:∃w8:World,w8=wr:=⟨_,rfl⟩
    have c1:=(hB.cell (p:=⟨b0,o0,none⟩) l1).trans e1
    have c3:=(hB.cell (p:=⟨b2,o2,none⟩) l3).trans e3
    rcases hk with rfl|rfl
    ·go_wp2_with fail
     refine (HC3.out _ hB).mono ?_
     rintro e w6 ⟨rfl,hb6⟩
     have hx6:=box_bel hx hb6 (by omega)
     have hB6:=hB.trans (hb6.mono (by omega))
     have hz6:w.heap.size+2≤w6.heap.size:=by have:=hb6.size;omega
     clear hx hB hz hb6 c1 c3
     go_wp2_with fail
     refine (ascends0 _ _ _ _).mono ?_
     rintro e w7 ⟨rfl,hb7⟩
     have hx7:=box_bel hx6 hb7 (by omega)
     have hB7:=hB6.trans (hb7.mono (by omega))
     have hz7:w.heap.size+2≤w7.heap.size:=by have:=hb7.size;omega
     clear hx6 hB6 hz6 hb7
     go_wp2
     go_roundw
     case rel=>exact ⟨1,.inr rfl,by go_num,hx7,hB7,hz7⟩
     case measure=>simp [intOf]
    go_wp2
    go_quiet ((go_at_call 150;first|with_reducible exact Calls.quiet_of_same (HL1.out _ (bl_drewN hB _))|with_reducible exact Calls.quiet_of_same (HL3.out _ (bl_drewN hB _))))
    go_wp2
    go_ret
    exact ⟨rfl,bl_drewN hB _⟩
end
theorem set3c {w:World} {g:Nat} {x0 x1 x2 y2:Value} {T:TypeId} (h:w.heap[g]? =some (.cells #[x0,x1,x2] T (0,0))):(w.setCell ⟨g,2,none⟩ y2).heap[g]? =some (.cells #[x0,x1,y2] T (0,0)):=by
 rw [heap_setCell_same _ _ _ _ _ _ h]
 rfl
theorem heap_at {w:World} {o:Obj} {k:Nat} (h:w.heap.size=k):(w.alloc o).heap[k]? =some o:=by subst h;exact heap_alloc_new w o
section
variable {w:World} {M M':Nat→Prop} {p q:Option Addr} {cp cq:Nat}
theorem tnew1 (w:World):
    Calls Tryz.prog 47 #[.int .i64 1] w fun e w'=>∃(p:Option Addr) (cp:Nat) (q:Option Addr) (cq:Nat),e= .returned (.tuple #[tb1 p cp q cq,.int .i64 0])∧Sl (fun k=>k<w.heap.size) w' p cp ([[]]:List (List Int))∧Sl (fun k=>k<w.heap.size) w' q cq ([[0]]:List (List Int))∧Below w.heap.size w w':=by
 obtain ⟨W,hW⟩:∃W,W=((((w.alloc (.cells #[.int .i64 0,.slice none 0 0,.slice none 0 0] 29)).alloc (.cells #[] 3)).alloc (.cells #[.slice (some ⟨w.heap.size+1,0,none⟩) 0 0] 62)).alloc (.cells #[.int .i64 1,.slice (some ⟨w.heap.size+1+1,0,none⟩) 1 1,.slice none 0 0] 29)):=⟨_,rfl⟩
 have hz:w.heap.size+4≤W.heap.size:=by rw [hW];simp
 have hB:Below w.heap.size w W:=by rw [hW];(repeat' (first|with_reducible exact Below.refl _ _|with_reducible assumption|with_reducible refine bl_drewN ?_ _|with_reducible refine Below.drew ?_|with_reducible refine Below.alloc ?_ ?_ _|with_reducible refine Below.setCell ?_ ?_ _|omega|(simp;done)|(simp;omega)))
 have h0:W.heap[w.heap.size]? =some (.cells #[.int .i64 0,.slice none 0 0,.slice none 0 0] 29 (0,0)):=by rw [hW];(repeat (first|(refine heap_at ?_;(simp;done))|refine heap_old ?_))
 have h2:W.heap[w.heap.size+1+1]? =some (.cells #[.slice (some ⟨w.heap.size+1,0,none⟩) 0 0] 62 (0,0)):=by rw [hW];(repeat (first|(refine heap_at ?_;(simp;done))|refine heap_old ?_))
 have h3:W.heap[w.heap.size+1+1+1]? =some (.cells #[.int .i64 1,.slice (some ⟨w.heap.size+1+1,0,none⟩) 1 1,.slice none 0 0] 29 (0,0)):=by rw [hW];(repeat (first|(refine heap_at ?_;(simp;done))|refine heap_old ?_))
 go_enter Tryz.func47,Tryz.ntmps47
 go_wp2
 rw [←hW]
 clear hW
 have hP:Sl (fun k=>k<w.heap.size+1) W (some ⟨w.heap.size+1+1,0,none⟩) 1 ([[]]:List (List Int)):=by
  refine Sl.litr h2 (by show ¬(_<_);omega) rfl (by unfold maxLen;omega) fun j r hr=> ?_
  rcases j with _|j
  ·obtain rfl:r=[]:=by simpa using hr.symm
   exact ⟨_,_,rfl,Sl.nil _ _ _ (by unfold maxLen;omega)⟩
  simp at hr
 have f3:=cells3 h3
 have f30:=f3.1.2.2
 have f3z:=f3.2
 clear f3
 go_loopw [18] (fun i wr=>(i= .int .i64 0∧wr=W)∨∃(q:Option Addr) (cq:Nat),i= .int .i64 1∧Hid (wr.heap[w.heap.size]? =some (.cells #[.int .i64 0,.slice none 0 0,.slice none 0 0] 29 (0,0))∧wr.heap[w.heap.size+1+1+1]? =some (.cells #[.int .i64 1,.slice (some ⟨w.heap.size+1+1,0,none⟩) 1 1,.slice q 1 cq] 29 (0,0))∧Sl (fun k=>k<w.heap.size+1) wr (some ⟨w.heap.size+1+1,0,none⟩) 1 ([[]]:List (List Int))∧Sl (fun k=>k<w.heap.size+1) wr q cq ([[0]]:List (List Int))∧Below w.heap.size w wr)) (fun i _=>1-(intOf i).toNat)
 case atStart=>exact .inl ⟨rfl,rfl⟩
 case round=>
  obtain ⟨wo,rfl⟩:∃wo:World,wo=wr:=⟨_,rfl⟩
  rcases hrel with ⟨rfl,rfl⟩|⟨q,cq,rfl,hH⟩
  ·have hb1:=(Below.refl wo.heap.size wo).alloc (Nat.le_refl _) (.cells #[.int .i64 0] 3)
   have hb2:=hb1.alloc (by simp) (.cells #[.slice (some ⟨wo.heap.size,0,none⟩) 1 1] 62)
   have hn2:((wo.alloc (.cells #[.int .i64 0] 3)).alloc (.cells #[.slice (some ⟨wo.heap.size,0,none⟩) 1 1] 62)).cell? ⟨wo.heap.size+1,0,none⟩=some (.slice (some ⟨wo.heap.size,0,none⟩) ([0]:List Int).length 1):=box1 _ _ _ (by simp)
   have hs2:Sl (fun k=>(Value.slice none 0 0).ownBlock=some k∨k<w.heap.size+4) ((wo.alloc (.cells #[.int .i64 0] 3)).alloc (.cells #[.slice (some ⟨wo.heap.size,0,none⟩) 1 1] 62)) (some ⟨wo.heap.size,0,none⟩) 1 ([0]:List Int):=
    Sl.lit (heap_old (heap_alloc_new wo _)) rfl (by simp [Value.ownBlock];omega) (fun x hx=>by simp at hx;subst hx;unfold i64;omega) rfl (by unfold maxLen;omega)
   go_wp2_with (at_builtin;refine wpList_push_x (n0:=w.heap.size+4) (B:=w.heap.size+4) (v:= .slice none 0 0) (rows:=([]:List (List Int))) (r:=[0]) (g:=wo.heap.size+1) (c:=1) (ar:=some ⟨wo.heap.size,0,none⟩) (cr:=1) rfl rfl Tryz.underlying27 info_ints rfl (by simp [go_sem]) Ox.nil hn2 hs2 (by simp) (by simp;omega) ?_)
   intro a9 c9 L9 w9 hL9 hO9 hk9 hg9
   have hb9:=hb2.trans ((Below.refl wo.heap.size _).grown hg9 (by simp;omega) (fun k hk=>by simp [Value.ownBlock] at hk))
   obtain rfl:L9=[[0]]:=hL9.out
   have g0:=(hb9.block _ (by omega)).trans h0
   have g3:=(hb9.block _ (by omega)).trans h3
   have gP:=hP.below hb9
   have gz:=(cells3 g3).2
   have gc:=(cells3 g3).1.2.2
   have gB:=hB.trans (hb9.mono (by omega))
   have gQ:=(hO9.toSl (Nat.le_refl _)).ext (Ext.setCell (M:=fun k=>k<w.heap.size+4) w9 (p:=⟨w.heap.size+1+1+1,2,none⟩) (by show _<_;simp) (.slice a9 1 c9))
   have HH:Hid (((w9.setCell ⟨w.heap.size+1+1+1,2,none⟩ (.slice a9 1 c9)).heap[w.heap.size]? =some (.cells #[.int .i64 0,.slice none 0 0,.slice none 0 0] 29 (0,0))∧(w9.setCell ⟨w.heap.size+1+1+1,2,none⟩ (.slice a9 1 c9)).heap[w.heap.size+1+1+1]? =some (.cells #[.int .i64 1,.slice (some ⟨w.heap.size+1+1,0,none⟩) 1 1,.slice a9 1 c9] 29 (0,0))∧Sl (fun k=>k<w.heap.size+1) (w9.setCell ⟨w.heap.size+1+1+1,2,none⟩ (.slice a9 1 c9)) (some ⟨w.heap.size+1+1,0,none⟩) 1 ([[]]:List (List Int))∧Sl (fun k=>k<w.heap.size+1) (w9.setCell ⟨w.heap.size+1+1+1,2,none⟩ (.slice a9 1 c9)) a9 c9 ([[0]]:List (List Int))∧Below w.heap.size w (w9.setCell ⟨w.heap.size+1+1+1,2,none⟩ (.slice a9 1 c9)))):=by
    refine ⟨(Below.heap_setCell _ _ _ _ (by simp;omega)).trans g0,set3c g3,?_,gQ.anti fun k _ hk=>by show k<_;omega,gB.setCell (by show w.heap.size≤w.heap.size+1+1+1;omega) _⟩
    refine Sl.litr ((Below.heap_setCell _ _ _ _ (by simp)).trans ((hb9.block _ (by omega)).trans h2)) (by show ¬(_<_);omega) rfl (by unfold maxLen;omega) fun j r hr=> ?_
    rcases j with _|j
    ·obtain rfl:r=[]:=by simpa using hr.symm
     exact ⟨_,_,rfl,Sl.nil _ _ _ (by unfold maxLen;omega)⟩
    simp at hr
   clear hb1 hb2 hn2 hs2 hL9 hO9 hk9 hg9 hb9 g0 gP gB gQ f30 f3z h0 h2 h3 hP hB
   go_wp2
   go_roundw
   case rel=>exact .inr ⟨a9,c9,by go_num,HH⟩
   case measure=>simp [intOf]
  clear f30 f3z h0 h2 h3 hP hB hz
  have k0:=(cells3 hH.out.1).2
  have k3:=(cells3 hH.out.2.1).1
  have kz:=hH.out.2.1
  obtain ⟨k30,k31,k32⟩:=k3
  obtain ⟨j0,j1,j2⟩:=(cells3 hH.out.1).1
  clear kz
  obtain ⟨u,hu⟩:∃u,u=((wo.setCell ⟨w.heap.size,0,none⟩ (.int .i64 1)).setCell ⟨w.heap.size,1,none⟩ (.slice (some ⟨w.heap.size+1+1,0,none⟩) 1 1)).setCell ⟨w.heap.size,2,none⟩ (.slice q 1 cq):=⟨_,rfl⟩
  have hur:u.heap[w.heap.size]? =some (.cells #[.int .i64 1,.slice (some ⟨w.heap.size+1+1,0,none⟩) 1 1,.slice q 1 cq] 29 (0,0)):=by rw [hu];exact set3 hH.out.1
  have hb:Below w.heap.size w u:=by rw [hu];exact ((hH.out.2.2.2.2.setCell (p:=⟨w.heap.size,0,none⟩) (Nat.le_refl _) _).setCell (p:=⟨w.heap.size,1,none⟩) (Nat.le_refl _) _).setCell (p:=⟨w.heap.size,2,none⟩) (Nat.le_refl _) _
  have hx:∀{l:List (List Int)} {a:Option Addr} {c:Nat},Sl (fun k=>k<w.heap.size+1) wo a c l→Sl (fun k=>k<w.heap.size) u a c l:=by
   intro l a c h
   rw [hu]
   refine Sl.anti (M:=fun k=>k<w.heap.size+1) ?_ fun k _ hk=>by show k<_;omega
   exact ((h.ext (Ext.setCell (M:=fun k=>k<w.heap.size+1) _ (p:=⟨w.heap.size,0,none⟩) (Nat.lt_succ_self _) _)).ext (Ext.setCell (M:=fun k=>k<w.heap.size+1) _ (p:=⟨w.heap.size,1,none⟩) (Nat.lt_succ_self _) _)).ext (Ext.setCell (M:=fun k=>k<w.heap.size+1) _ (p:=⟨w.heap.size,2,none⟩) (Nat.lt_succ_self _) _)
  have x1:=hx hH.out.2.2.1
  have x2:=hx hH.out.2.2.2.1
  go_wp2
  rw [←hu]
  obtain ⟨d0,d1,d2⟩:=(cells3 hur).1
  exact bodyPost_ret (v:= .tuple #[tb1 (some ⟨w.heap.size+1+1,0,none⟩) 1 q cq,.int .i64 0]) (by simp [results,Tryz.results47,go_sem,d0,d1,d2]) rfl ⟨_,_,_,_,rfl,x1,x2,hb⟩
abbrev ob1:Value:= .agg #[.int .i64 1,.slice none 0 0]
theorem tcheck1 (hp:Sl M w p cp ([[]]:List (List Int))) (hq:Sl M' w q cq ([[0]]:List (List Int))):
    Calls Tryz.prog 226 #[tb1 p cp q cq,ob1] w fun e w'=>e= .returned (.int .i64 0)∧Below w.heap.size w w':=by
 obtain ⟨W,hW⟩:∃W,W=(w.alloc (.cells #[.int .i64 1,.slice p 1 cp,.slice q 1 cq] 29)).alloc (.cells #[.int .i64 1,.slice none 0 0] 39):=⟨_,rfl⟩
 have hB:Below w.heap.size w W:=by rw [hW];(repeat' (first|with_reducible exact Below.refl _ _|with_reducible assumption|with_reducible refine bl_drewN ?_ _|with_reducible refine Below.drew ?_|with_reducible refine Below.alloc ?_ ?_ _|with_reducible refine Below.setCell ?_ ?_ _|omega|(simp;done)|(simp;omega)))
 have hz:w.heap.size+2≤W.heap.size:=by rw [hW];simp
 have h0:W.heap[w.heap.size]? =some (.cells #[.int .i64 1,.slice p 1 cp,.slice q 1 cq] 29 (0,0)):=by rw [hW];(repeat (first|(refine heap_at ?_;(simp;done))|refine heap_old ?_))
 have h1:W.heap[w.heap.size+1]? =some (.cells #[.int .i64 1,.slice none 0 0] 39 (0,0)):=by rw [hW];(repeat (first|(refine heap_at ?_;(simp;done))|refine heap_old ?_))
 have HC:=Lib.hid (tvalid1 (hp.below hB) (hq.below hB))
 clear hp hq
 go_enter Tryz.func226,Tryz.ntmps226
 go_wp2_with fail
 rw [←hW]
 refine (HC.out).mono ?_
 rintro e w1 ⟨rfl,hb1⟩
 have c0:=(cells3 ((hb1.block _ (by omega)).trans h0)).1.1
 have c1:w1.cell? ⟨w.heap.size+1,0,none⟩=some (.int .i64 1):=by rw [cell_of_row _ _ _ _ _ _ ((hb1.block _ (by omega)).trans h1)];rfl
 have hB1:=hB.trans (hb1.mono (by omega))
 clear hW hB hz h0 h1 HC hb1
 go_wp2
 go_ret
 exact ⟨rfl,hB1⟩
theorem len64_0 (w:World):Calls Tryz.prog 204 #[.int .u64 0] w fun e w'=>e= .returned (.int .i64 0)∧w'=w:=by
 go_enter Tryz.func204,Tryz.ntmps204
 go_wp2
 go_ret
 exact ⟨by kernel_rfl,rfl⟩
theorem ins0 (p:Option Addr) (c:Nat) (fv:Value) (w:World):Calls Tryz.prog 260 #[.slice p 0 c,.int .i64 0,.int .i64 0,fv] w fun e w'=>e= .returned (.tuple #[])∧w'=w:=by
 go_enter Tryz.func260,Tryz.ntmps260
 go_wp2
 go_loop [8] (fun v=>v= .int .i64 1) (fun _=>0)
 case atStart=>rfl
 case round=>
  subst hrel
  go_wp2
  go_end0
  exact ⟨rfl,rfl⟩
theorem pdq0 (p:Option Addr) (c:Nat) (fv:Value) (w:World):Calls Tryz.prog 203 #[.slice p 0 c,.int .i64 0,.int .i64 0,.int .i64 0,fv] w fun e w'=>e= .returned (.tuple #[])∧w'=w:=by
 go_enter Tryz.func203,Tryz.ntmps203
 go_wp2
 go_loop [1,2,3] (fun a b l=>a= .int .i64 0∧b= .int .i64 0∧l= .int .i64 0) (fun _ _ _=>0)
 case atStart=>exact ⟨rfl,rfl,rfl⟩
 case round=>
  obtain ⟨rfl,rfl,rfl⟩:=hrel
  go_wp2_with fail
  refine (ins0 _ _ _ _).mono ?_
  rintro e w1 ⟨rfl,rfl⟩
  go_wp2
  exact bodyPost_ret (v:= .tuple #[]) (by simp [results,Tryz.results203,go_sem]) rfl ⟨rfl,rfl⟩
theorem sortF0 (p:Option Addr) (c:Nat) (fv:Value) (w:World):Calls Tryz.prog 293 #[.slice p 0 c,fv] w fun e w'=>e= .returned (.tuple #[])∧w'=w:=by
 go_enter Tryz.func293,Tryz.ntmps293
 go_wp2_with fail
 refine (len64_0 _).mono ?_
 rintro e w1 ⟨rfl,rfl⟩
 go_wp2_with fail
 refine (pdq0 _ _ _ _).mono ?_
 rintro e w1 ⟨rfl,rfl⟩
 go_wp2
 go_end0
 exact ⟨rfl,rfl⟩
theorem cloneT0 (w:World):Calls Tryz.prog 137 #[.slice none 0 0] w fun e w'=>e= .returned (.slice none 0 0)∧w'=w:=by
 have he:=fun (w:World) (a:Option Addr) (n c:Nat)=>Lib.run_eql_slice_nil (P:=Tryz.prog) w 37 72 a n c 0 0 Tryz.underlying37
 go_enter Tryz.func137,Tryz.ntmps137
 go_wp2
 go_ret
 exact ⟨rfl,rfl⟩
theorem tfind1 (w:World):Calls Tryz.prog 227 #[ob1] w fun e w'=>e= .returned (.slice none 0 0)∧Below w.heap.size w w':=by
 have hB:Below w.heap.size w (w.alloc (.cells #[.int .i64 1,.slice none 0 0] 39)):=by (repeat' (first|with_reducible exact Below.refl _ _|with_reducible assumption|with_reducible refine bl_drewN ?_ _|with_reducible refine Below.drew ?_|with_reducible refine Below.alloc ?_ ?_ _|with_reducible refine Below.setCell ?_ ?_ _|omega|(simp;done)|(simp;omega)))
 go_enter Tryz.func227,Tryz.ntmps227
 go_wp2_with fail
 refine (cloneT0 _).mono ?_
 rintro e w1 ⟨rfl,rfl⟩
 go_wp2_with fail
 refine (sortF0 _ _ _ _).mono ?_
 rintro e w1 ⟨rfl,rfl⟩
 go_wp2
 go_ret
 exact ⟨rfl,hB⟩
theorem bsF0 (a:Option Addr) (n c:Nat) (fv:Value) (w:World):Calls Tryz.prog 343 #[.slice none 0 0,.slice a n c,fv] w fun e w'=>e= .returned (.tuple #[.int .i64 0,.bool false])∧w'=w:=by
 go_enter Tryz.func343,Tryz.ntmps343
 go_wp2
 go_loop [9,10] (fun i j=>i= .int .i64 0∧j= .int .i64 0) (fun _ _=>0)
 case atStart=>exact ⟨rfl,rfl⟩
 case round=>
  obtain ⟨rfl,rfl⟩:=hrel
  go_wp2
  go_ret2
  exact ⟨rfl,rfl⟩
theorem answer0 (a:Option Addr) (n c:Nat) (hn:0<n) (w:World):Calls Tryz.prog 295 #[.slice none 0 0,.slice a n c] w fun e w'=>e= .returned (.tuple #[.slice none 0 0,.bool false])∧w'=w:=by
 have hn0:(((n:Nat):Int)==0)=false:=by simp;omega
 go_enter Tryz.func295,Tryz.ntmps295
 go_wp2_with fail
 refine (bsF0 _ _ _ _ _).mono ?_
 rintro e w1 ⟨rfl,rfl⟩
 go_wp2
 go_ret2
 exact ⟨rfl,rfl⟩
theorem knows0 (a:Option Addr) (n c:Nat) (hn:0<n) (w:World):Calls Tryz.prog 280 #[.slice none 0 0,.slice a n c] w fun e w'=>e= .returned (.bool false)∧w'=w:=by
 have HC:=Lib.hid (answer0 a n c hn)
 go_enter Tryz.func280,Tryz.ntmps280
 go_wp2_with fail
 refine (HC.out _).mono ?_
 rintro e w1 ⟨rfl,rfl⟩
 go_wp2
 go_ret
 exact ⟨rfl,rfl⟩
end
end Go.Proofs.YtlmfbjiejodalaaGreatDoor
