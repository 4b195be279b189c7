/- Several texts, one behind the other. Conditions: as each of them says. -/
import Derived.Test.YtjagagpcjpcjjaaGreatMt41
import Derived.Test.YtjagagpcjpcjjaaGreatMt39
import Derived.Test.YtjagagpcjpcjjaaGreatMt37
import Derived.Test.YtjagagpcjpcjjaaGreatMt36
import Derived.Test.YtjagagpcjpcjjaaGreatMt33
import Derived.Test.YtjagagpcjpcjjaaGreatMt32
import Derived.Test.YtjagagpcjpcjjaaGreatMt29
import Derived.Test.YtjagagpcjpcjjaaGreatMt28
import Derived.Test.YtjagagpcjpcjjaaGreatMt27
import Derived.Test.YtjagagpcjpcjjaaGreatMt26
import Derived.Test.YtjagagpcjpcjjaaGreatMt24
import Derived.Test.YtjagagpcjpcjjaaGreatMt21
import Derived.Test.YtjagagpcjpcjjaaGreatMt19
import Derived.Test.YtjagagpcjpcjjaaGreatMt17
import Derived.Test.YtjagagpcjpcjjaaGreatMt9
import Derived.Test.YtjagagpcjpcjjaaGreatMt4
import Derived.Test.YtjagagpcjpcjjaaGreatMt1
set_option maxRecDepth 100000
set_option maxHeartbeats 32000000
namespace Go.Proofs.YtjagagpcjpcjjaaGreat
open Go.RowKit
section
variable {M MT:Nat→Prop} {w:World} {an ao aT:Option Addr} {cn co cT:Nat} {m:Mach} {T:List Nd}
end
section
variable {M:Nat→Prop} {w:World} {a:Option Addr} {c:Nat} {L:List Nd}
end
section
variable {M:Nat→Prop} {w:World} {an ao:Option Addr} {cn co:Nat} {m:Mach}
end
def Mach.partsW (m:Mach) (extra:Int):Mach×List (List Int)×List (List Int)×Int:=
 if m.err≠0 then (Mach.nothing,[],[],m.err) else
 if extra<0∨3<extra then (Mach.nothing,[],[],2) else
 if (uptW m.inputs (extra+1)).2≠0 then (Mach.nothing,[],[],(uptW m.inputs (extra+1)).2) else
 (m.minOf,m.minOf.covW.map Pc.word,(uptW m.inputs (extra+1)).1,0)
def PartsR (m:Mach) (extra:Int) (w:World) (e:Ending) (w':World):Prop:=∃(an:Option Addr) (cn:Nat) (ao:Option Addr) (co:Nat) (t:Mach) (aA:Option Addr) (cA:Nat) (A:List (List Int)) (aX:Option Addr) (cX:Nat) (X:List (List Int)) (e1:Int),
 e= .returned (.tuple #[maV t an cn ao co,.slice aA A.length cA,.slice aX X.length cX,.int .i64 e1])∧Hid (m.partsW extra=(t,A,X,e1))∧Ma (fun k=>k<w.heap.size) w' an cn ao co t∧Sl (fun k=>k<w.heap.size) w' aA cA A∧Sl (fun k=>k<w.heap.size) w' aX cX X∧Below w.heap.size w w'
section
variable {M:Nat→Prop} {w:World} {an ao:Option Addr} {cn co:Nat} {m:Mach}
end
section
variable {M MT:Nat→Prop} {w:World} {an ao aT:Option Addr} {cn co cT:Nat} {m:Mach} {T:List Nd}
end
namespace Mach
variable {m:Mach}
end Mach
section
variable {M:Nat→Prop} {w:World} {an ao:Option Addr} {cn co:Nat} {m:Mach}
end
end Go.Proofs.YtjagagpcjpcjjaaGreat
namespace Go.Proofs.YtjagagpcjpcjjaaGreat
namespace Mach
variable {m:Mach}
theorem minF_min (ok:m.Ok):m.minF.minErr=0∧m.minF.minOf=m.minF∧m.minF.err=0∧m.minF.next.length≤m.next.length:=by
 have okt:=minF_ok ok
 have he:=Mach.err_of_ok _ okt
 have h1:m.minF.minOf=m.minF:=by rw [Mach.minOf_eq he,minF_minF ok]
 have h2:m.minF.minimal=true:=by
  unfold minimal
  have:=minF_reach ok
  simp [he,this,h1]
 exact ⟨Mach.minErr_0 he h2,h1,he,by rw [minF_len];exact Nat.le_trans (firsts_le ok) (reach_le ok)⟩
end Mach
namespace Mach
variable {m:Mach}
def WiP (m:Mach) (T:List Nd) (a:Nat) (s c:Int):Prop:=∃f g e,m.right T f a g=(e,true)∧(s,c)∈g.ini.zip g.cur∧GOk m.next.length g∧((∀s∈g.ini,0≤s∧s<(m.next.length:Int))∧g.cur.length≤m.next.length)
def Harm (m:Mach) (s t:Int) (a b:List Int):Prop:=m.outsW s (a.take (comW a b))≠m.outsW t (a.take (comW a b))
end Mach
namespace Mach
variable {n i:Mach}
def Acx (n:Mach) (j:Nat) (u:List Int):Prop:=∃p∈n.covW.map Pc.word,∃x,n.okS x∧x.length≤j∧u=p++x
def HarmI (n:Mach) (ids:List (List (List Int))):Prop:=∀s t:Nat,s<n.next.length→t<n.next.length→s≠t→∃a∈ids.getD s [],∃b∈ids.getD t [],n.Harm (s:Int) (t:Int) a b
section
variable {ids:List (List (List Int))} {X:List (List Int)} {k:Nat}
end
end Mach
namespace Mach
variable {m:Mach}
def sids (m:Mach):List (List (List Int)):=(List.range m.next.length).map fun s:Nat=>srt cmpW (m.idO (s:Int) (allS m.next.length))
def PairD (s t i j:Nat):Prop:=i≠j∧(min i j<s∨(min i j=s∧max i j<t))
structure SepF (m:Mach) (s t:Nat) (F:Nat→List (List Int)):Prop where
 mem:∀i,i<m.next.length→∀x,x∈F i↔∃j:Nat,j<m.next.length∧PairD s t i j∧x=m.sepW (i:Int) (j:Int)
 len:∀i,(F i).length≤s*m.next.length+t
def leafT (m:Mach):List Nd:=[⟨allS m.next.length, -1,[]⟩]
end Mach
namespace Mach
variable {m n i:Mach}
def apB (m:Mach) (s t:Int) (w:List Int):Bool:=decide (m.outsW s w≠m.outsW t w)
def chStep (m:Mach) (s t:Nat) (C:List (List Int)):List (List Int):=if C.any (m.apB (s:Int) (t:Int))=true then C else C++[m.sepW (s:Int) (t:Int)]
def chT (m:Mach) (s:Nat) (C:List (List Int)):Nat→List (List Int)
 |0=>C
 |k+1=>m.chStep s (s+1+k) (chT m s C k)
def chS (m:Mach):Nat→List (List Int)
 |0=>[]
 |s+1=>m.chT s (chS m s) (m.next.length-(s+1))
def chW (m:Mach):List (List Int):=srt cmpW (m.chS m.next.length)
theorem chStep_mem {s t:Nat} {C:List (List Int)} {w:List Int} (h:w∈m.chStep s t C):w∈C∨w=m.sepW (s:Int) (t:Int):=by
 unfold chStep at h
 split at h
 ·exact .inl h
 rcases List.mem_append.1 h with h|h
 ·exact .inl h
 exact .inr (List.mem_singleton.1 h)
theorem chT_mem {s:Nat} {C:List (List Int)}:∀k,∀w∈m.chT s C k,w∈C∨∃a b:Int,w=m.sepW a b
 |0,_,h=> .inl h
 |k+1,w,h=>by
  rcases chStep_mem h with h|h
  ·exact chT_mem k w h
  exact .inr ⟨_,_,h⟩
theorem chS_mem:∀s,∀w∈m.chS s,∃a b:Int,w=m.sepW a b
 |0,w,h=>by simp [chS] at h
 |s+1,w,h=>by
  rcases chT_mem _ w h with h|h
  ·exact chS_mem s w h
  exact h
theorem chW_mem {w:List Int} (h:w∈m.chW):∃a b:Int,w=m.sepW a b:=chS_mem _ w ((srt_mem tot_cmp).1 h)
theorem chT_len {s:Nat} {C:List (List Int)}:∀k,(m.chT s C k).length≤C.length+k
 |0=>Nat.le_refl _
 |k+1=>by
  have h:=chT_len (s:=s) (C:=C) k
  unfold chT chStep
  split
  ·omega
  rw [List.length_append,List.length_singleton];omega
theorem chS_len:∀s,(m.chS s).length≤s*m.next.length
 |0=>by simp [chS]
 |s+1=>by
  have h1:=chS_len s
  have h2:=chT_len (m:=m) (s:=s) (C:=m.chS s) (m.next.length-(s+1))
  rw [Nat.succ_mul]
  show (m.chT s (m.chS s) (m.next.length-(s+1))).length≤_
  omega
theorem chW_len:m.chW.length≤m.next.length*m.next.length:=Nat.le_trans (srt_len _) (chS_len _)
def prodW (A X C:List (List Int)):List (List Int):=A.flatMap fun p=>X.flatMap fun x=>C.map fun t=>(p++x)++t
def noNil (C:List (List Int)):List (List Int):=if C=[] then [[]] else C
def wsW (m:Mach) (extra:Int):List (List Int)×Int:=
 if m.err≠0 then ([],m.err) else
 if extra<0∨3<extra then ([],2) else
 if (uptW m.inputs (extra+1)).2≠0 then ([],(uptW m.inputs (extra+1)).2) else
 if 10000<(m.minOf.covW.map Pc.word).length*(uptW m.inputs (extra+1)).1.length*(noNil m.minOf.chW).length then ([],11) else
 (maxW (prodW (m.minOf.covW.map Pc.word) (uptW m.inputs (extra+1)).1 (noNil m.minOf.chW)),0)
def hsW (m:Mach) (extra:Int):List (List Int)×Int:=
 if m.err≠0 then ([],m.err) else
 if extra<0∨3<extra then ([],2) else
 if (uptW m.inputs (extra+1)).2≠0 then ([],(uptW m.inputs (extra+1)).2) else
 if 10000<(m.minOf.covW.map Pc.word).length*(uptW m.inputs (extra+1)).1.length*grW m.minOf.sids then ([],11) else
 (maxW (suOut m.minOf m.minOf.sids (m.minOf.covW.map Pc.word) (uptW m.inputs (extra+1)).1),0)
end Mach
def lstS (b:Option (List Int)) (x:List Int):Option (List Int):=
 match b with
 |none=>some x
 |some b=>some (if cmpW x b<0 then x else b)
def lstW (l:List (List Int)):Option (List Int):=l.foldl lstS none
theorem lstW_snoc (l:List (List Int)) (x:List Int):lstW (l++[x])=lstS (lstW l) x:=by unfold lstW;rw [List.foldl_append];rfl
theorem lstW_nil:lstW []=none:=rfl
theorem foldl_some:∀(l:List (List Int)) (b:List Int),∃x,l.foldl lstS (some b)=some x∧(x=b∨x∈l)
 |[],b=>⟨b,rfl,.inl rfl⟩
 |y::l,b=>by
  rw [List.foldl_cons]
  show ∃x,l.foldl lstS (some (if cmpW y b<0 then y else b))=some x∧_
  obtain ⟨x,h1,h2⟩:=foldl_some l (if cmpW y b<0 then y else b)
  refine ⟨x,h1,?_⟩
  rcases h2 with h2|h2
  ·split at h2
   ·exact .inr (by rw [h2];exact List.mem_cons_self ..)
   exact .inl h2
  exact .inr (List.mem_cons_of_mem _ h2)
theorem lstW_some {l:List (List Int)} (h:l≠[]):∃x,lstW l=some x∧x∈l:=by
 cases l with
 |nil=>exact absurd rfl h
 |cons y l=>
  obtain ⟨x,h1,h2⟩:=foldl_some l y
  refine ⟨x,h1,?_⟩
  rcases h2 with rfl|h2
  ·exact List.mem_cons_self ..
  exact List.mem_cons_of_mem _ h2
theorem lstW_none {l:List (List Int)} (h:lstW l=none):l=[]:=Classical.byContradiction fun e=>by
 obtain ⟨x,h1,_⟩:=lstW_some e
 rw [h1] at h;simp at h
def Mach.refT (m:Mach) (t:Tr):Option (List Int):=
 if comW (m.outsW m.start t.inn) t.out<min t.inn.length t.out.length then some (t.inn.take (comW (m.outsW m.start t.inn) t.out+1)) else none
def Mach.refL (m:Mach) (T:List Tr):List (List Int):=T.filterMap m.refT
def Mach.refW (m:Mach) (T:List Tr):Option (List Int):=lstW (m.refL T)
theorem Mach.refL_step {m:Mach} {T:List Tr} {k:Nat} {t:Tr} (h:T[k]? =some t):m.refL (T.take (k+1))=m.refL (T.take k)++(m.refT t).toList:=by
 unfold Mach.refL
 rw [List.take_add_one,h,List.filterMap_append]
 congr 1
def difN (a b:List Int):Option Nat:=if comW a b<min a.length b.length then some (comW a b) else none
theorem Mach.refT_dif {m:Mach} {t:Tr}:m.refT t=(difN (m.outsW m.start t.inn) t.out).map fun i=>t.inn.take (i+1):=by
 unfold Mach.refT difN
 rw [Mach.outsW_len]
 split<;>rfl
def rfW (h:Hy) (o:Ob):List Int×Bool×Int:=
 if h.m.inputs≠o.inputs then ([],false,15) else ((h.m.refW o.traces).getD [],(h.m.refW o.traces).isSome,0)
def tnW (h:Hy) (o:Ob) (l:List (List Int)):List (List Int)×List Int×Bool×Int:=
 if (rfW h o).2.2≠0 then ([],[],false,(rfW h o).2.2) else
 if (rfW h o).2.1=true then ([],(rfW h o).1,false,0) else
 (maxW (l.filter fun v=> !o.known v),[],decide ((maxW (l.filter fun v=> !o.known v)).length=0),0)
structure Stg where
 kind:Int
 extra:Int
 seed:Nat
 count:Int
 len:Int
namespace Stg
def err (s:Stg):Int:=
 if s.kind<1∨4<s.kind then 2 else
 if s.kind=4 then (if s.extra≠0 then 1 else if s.count<0∨10000<s.count∨s.len<0∨1024<s.len then 2 else 0) else
 if s.extra<0∨3<s.extra then 2 else if s.seed≠0∨s.count≠0∨s.len≠0 then 1 else 0
end Stg
def rsW (seed:Nat) (inputs count len:Int):List (List Int)×Int:=
 if inputs<1∨64<inputs∨count<0∨10000<count∨len<0∨1024<len then ([],2) else (rsF inputs.toNat len.toNat count.toNat seed [],0)
def Mach.twW (m:Mach) (s:Stg):List (List Int)×Int:=
 if m.err≠0 then ([],m.err) else if s.err≠0 then ([],s.err) else
 if s.kind=1 then m.wsW s.extra else if s.kind=2 then m.hsW s.extra else if s.kind=3 then m.suW s.extra else
 (srt cmpW (rsW s.seed m.inputs s.count s.len).1,(rsW s.seed m.inputs s.count s.len).2)
end Go.Proofs.YtjagagpcjpcjjaaGreat
namespace Go.Proofs.YtjagagpcjpcjjaaGreat
open Go.RowKit
abbrev stV (s:Stg):Value:= .agg #[.int .i64 s.kind,.int .i64 s.extra,.int .u64 (s.seed:Int),.int .i64 s.count,.int .i64 s.len]
abbrev stO (s:Stg):Obj:= .cells #[.int .i64 s.kind,.int .i64 s.extra,.int .u64 (s.seed:Int),.int .i64 s.count,.int .i64 s.len] 27
abbrev S5 (w:World) (b:Nat) (s:Stg):Prop:=w.cell? ⟨b,0,none⟩=some (.int .i64 s.kind)∧w.cell? ⟨b,1,none⟩=some (.int .i64 s.extra)∧w.cell? ⟨b,2,none⟩=some (.int .u64 (s.seed:Int))∧w.cell? ⟨b,3,none⟩=some (.int .i64 s.count)∧w.cell? ⟨b,4,none⟩=some (.int .i64 s.len)
theorem s5_new (w:World) (s:Stg):S5 (w.alloc (stO s)) w.heap.size s:=by refine ⟨?_,?_,?_,?_,?_⟩<;>simp
theorem S5.below {B b:Nat} {w w':World} {s:Stg} (h:S5 w b s) (hb:Below B w w') (hlt:b<B):S5 w' b s:=
 ⟨(hb.cell (p:=⟨b,0,none⟩) hlt).trans h.1,(hb.cell (p:=⟨b,1,none⟩) hlt).trans h.2.1,(hb.cell (p:=⟨b,2,none⟩) hlt).trans h.2.2.1,(hb.cell (p:=⟨b,3,none⟩) hlt).trans h.2.2.2.1,(hb.cell (p:=⟨b,4,none⟩) hlt).trans h.2.2.2.2⟩
section
variable {w:World}
theorem svalid_any (s:Stg):Calls Tryz.prog 7 #[stV s] w fun e w'=>e= .returned (.int .i64 s.err)∧Below w.heap.size w w':=by
 have hB0:=(Below.refl w.heap.size w).alloc (Nat.le_refl _) (stO s)
 obtain ⟨k,e,sd,c,l⟩:=s
 by_cases k1:k=1
 ·subst k1
  by_cases h1:e<0
  ·have h1b:decide (e<0)=true:=by simp [h1]
   have HF:Hid (Stg.err ⟨1,e,sd,c,l⟩=2):=by unfold Hid Stg.err;dsimp only;repeat (first|rfl|omega|(rw [if_pos (by omega)])|(rw [if_neg (by omega)]))
   clear h1
   go_enter Tryz.func7,Tryz.ntmps7
   go_wp2
   go_ret
   exact ⟨by rw [HF.out];rfl,hB0⟩
  have h1b:decide (e<0)=false:=by simp;omega
  by_cases h2:3<e
  ·have h2b:decide (3<e)=true:=by simp [h2]
   have HF:Hid (Stg.err ⟨1,e,sd,c,l⟩=2):=by unfold Hid Stg.err;dsimp only;repeat (first|rfl|omega|(rw [if_pos (by omega)])|(rw [if_neg (by omega)]))
   clear h1 h2
   go_enter Tryz.func7,Tryz.ntmps7
   go_wp2
   go_ret
   exact ⟨by rw [HF.out];rfl,hB0⟩
  have h2b:decide (3<e)=false:=by simp;omega
  by_cases h3:sd≠0
  ·have h3b:((sd:Int) !=0)=true:=by simp [h3]
   have HF:Hid (Stg.err ⟨1,e,sd,c,l⟩=1):=by unfold Hid Stg.err;dsimp only;repeat (first|rfl|omega|(rw [if_pos (by omega)])|(rw [if_neg (by omega)]))
   clear h1 h2 h3
   go_enter Tryz.func7,Tryz.ntmps7
   go_wp2
   go_ret
   exact ⟨by rw [HF.out];rfl,hB0⟩
  have h3b:((sd:Int) !=0)=false:=by simp;omega
  by_cases h4:c≠0
  ·have h4b:(c !=0)=true:=by simp [h4]
   have HF:Hid (Stg.err ⟨1,e,sd,c,l⟩=1):=by unfold Hid Stg.err;dsimp only;repeat (first|rfl|omega|(rw [if_pos (by omega)])|(rw [if_neg (by omega)]))
   clear h1 h2 h3 h4
   go_enter Tryz.func7,Tryz.ntmps7
   go_wp2
   go_ret
   exact ⟨by rw [HF.out];rfl,hB0⟩
  have h4b:(c !=0)=false:=by simp;omega
  by_cases h5:l≠0
  ·have h5b:(l !=0)=true:=by simp [h5]
   have HF:Hid (Stg.err ⟨1,e,sd,c,l⟩=1):=by unfold Hid Stg.err;dsimp only;repeat (first|rfl|omega|(rw [if_pos (by omega)])|(rw [if_neg (by omega)]))
   clear h1 h2 h3 h4 h5
   go_enter Tryz.func7,Tryz.ntmps7
   go_wp2
   go_ret
   exact ⟨by rw [HF.out];rfl,hB0⟩
  have h5b:(l !=0)=false:=by simp;omega
  have HF:Hid (Stg.err ⟨1,e,sd,c,l⟩=0):=by unfold Hid Stg.err;dsimp only;repeat (first|rfl|omega|(rw [if_pos (by omega)])|(rw [if_neg (by omega)]))
  clear h1 h2 h3 h4 h5
  go_enter Tryz.func7,Tryz.ntmps7
  go_wp2
  go_ret
  exact ⟨by rw [HF.out];rfl,hB0⟩
 have k1b:(k==1)=false:=by simp [k1]
 by_cases k2:k=2
 ·subst k2
  by_cases h1:e<0
  ·have h1b:decide (e<0)=true:=by simp [h1]
   have HF:Hid (Stg.err ⟨2,e,sd,c,l⟩=2):=by unfold Hid Stg.err;dsimp only;repeat (first|rfl|omega|(rw [if_pos (by omega)])|(rw [if_neg (by omega)]))
   clear h1
   go_enter Tryz.func7,Tryz.ntmps7
   go_wp2
   go_ret
   exact ⟨by rw [HF.out];rfl,hB0⟩
  have h1b:decide (e<0)=false:=by simp;omega
  by_cases h2:3<e
  ·have h2b:decide (3<e)=true:=by simp [h2]
   have HF:Hid (Stg.err ⟨2,e,sd,c,l⟩=2):=by unfold Hid Stg.err;dsimp only;repeat (first|rfl|omega|(rw [if_pos (by omega)])|(rw [if_neg (by omega)]))
   clear h1 h2
   go_enter Tryz.func7,Tryz.ntmps7
   go_wp2
   go_ret
   exact ⟨by rw [HF.out];rfl,hB0⟩
  have h2b:decide (3<e)=false:=by simp;omega
  by_cases h3:sd≠0
  ·have h3b:((sd:Int) !=0)=true:=by simp [h3]
   have HF:Hid (Stg.err ⟨2,e,sd,c,l⟩=1):=by unfold Hid Stg.err;dsimp only;repeat (first|rfl|omega|(rw [if_pos (by omega)])|(rw [if_neg (by omega)]))
   clear h1 h2 h3
   go_enter Tryz.func7,Tryz.ntmps7
   go_wp2
   go_ret
   exact ⟨by rw [HF.out];rfl,hB0⟩
  have h3b:((sd:Int) !=0)=false:=by simp;omega
  by_cases h4:c≠0
  ·have h4b:(c !=0)=true:=by simp [h4]
   have HF:Hid (Stg.err ⟨2,e,sd,c,l⟩=1):=by unfold Hid Stg.err;dsimp only;repeat (first|rfl|omega|(rw [if_pos (by omega)])|(rw [if_neg (by omega)]))
   clear h1 h2 h3 h4
   go_enter Tryz.func7,Tryz.ntmps7
   go_wp2
   go_ret
   exact ⟨by rw [HF.out];rfl,hB0⟩
  have h4b:(c !=0)=false:=by simp;omega
  by_cases h5:l≠0
  ·have h5b:(l !=0)=true:=by simp [h5]
   have HF:Hid (Stg.err ⟨2,e,sd,c,l⟩=1):=by unfold Hid Stg.err;dsimp only;repeat (first|rfl|omega|(rw [if_pos (by omega)])|(rw [if_neg (by omega)]))
   clear h1 h2 h3 h4 h5
   go_enter Tryz.func7,Tryz.ntmps7
   go_wp2
   go_ret
   exact ⟨by rw [HF.out];rfl,hB0⟩
  have h5b:(l !=0)=false:=by simp;omega
  have HF:Hid (Stg.err ⟨2,e,sd,c,l⟩=0):=by unfold Hid Stg.err;dsimp only;repeat (first|rfl|omega|(rw [if_pos (by omega)])|(rw [if_neg (by omega)]))
  clear h1 h2 h3 h4 h5
  go_enter Tryz.func7,Tryz.ntmps7
  go_wp2
  go_ret
  exact ⟨by rw [HF.out];rfl,hB0⟩
 have k2b:(k==2)=false:=by simp [k2]
 by_cases k3:k=3
 ·subst k3
  by_cases h1:e<0
  ·have h1b:decide (e<0)=true:=by simp [h1]
   have HF:Hid (Stg.err ⟨3,e,sd,c,l⟩=2):=by unfold Hid Stg.err;dsimp only;repeat (first|rfl|omega|(rw [if_pos (by omega)])|(rw [if_neg (by omega)]))
   clear h1
   go_enter Tryz.func7,Tryz.ntmps7
   go_wp2
   go_ret
   exact ⟨by rw [HF.out];rfl,hB0⟩
  have h1b:decide (e<0)=false:=by simp;omega
  by_cases h2:3<e
  ·have h2b:decide (3<e)=true:=by simp [h2]
   have HF:Hid (Stg.err ⟨3,e,sd,c,l⟩=2):=by unfold Hid Stg.err;dsimp only;repeat (first|rfl|omega|(rw [if_pos (by omega)])|(rw [if_neg (by omega)]))
   clear h1 h2
   go_enter Tryz.func7,Tryz.ntmps7
   go_wp2
   go_ret
   exact ⟨by rw [HF.out];rfl,hB0⟩
  have h2b:decide (3<e)=false:=by simp;omega
  by_cases h3:sd≠0
  ·have h3b:((sd:Int) !=0)=true:=by simp [h3]
   have HF:Hid (Stg.err ⟨3,e,sd,c,l⟩=1):=by unfold Hid Stg.err;dsimp only;repeat (first|rfl|omega|(rw [if_pos (by omega)])|(rw [if_neg (by omega)]))
   clear h1 h2 h3
   go_enter Tryz.func7,Tryz.ntmps7
   go_wp2
   go_ret
   exact ⟨by rw [HF.out];rfl,hB0⟩
  have h3b:((sd:Int) !=0)=false:=by simp;omega
  by_cases h4:c≠0
  ·have h4b:(c !=0)=true:=by simp [h4]
   have HF:Hid (Stg.err ⟨3,e,sd,c,l⟩=1):=by unfold Hid Stg.err;dsimp only;repeat (first|rfl|omega|(rw [if_pos (by omega)])|(rw [if_neg (by omega)]))
   clear h1 h2 h3 h4
   go_enter Tryz.func7,Tryz.ntmps7
   go_wp2
   go_ret
   exact ⟨by rw [HF.out];rfl,hB0⟩
  have h4b:(c !=0)=false:=by simp;omega
  by_cases h5:l≠0
  ·have h5b:(l !=0)=true:=by simp [h5]
   have HF:Hid (Stg.err ⟨3,e,sd,c,l⟩=1):=by unfold Hid Stg.err;dsimp only;repeat (first|rfl|omega|(rw [if_pos (by omega)])|(rw [if_neg (by omega)]))
   clear h1 h2 h3 h4 h5
   go_enter Tryz.func7,Tryz.ntmps7
   go_wp2
   go_ret
   exact ⟨by rw [HF.out];rfl,hB0⟩
  have h5b:(l !=0)=false:=by simp;omega
  have HF:Hid (Stg.err ⟨3,e,sd,c,l⟩=0):=by unfold Hid Stg.err;dsimp only;repeat (first|rfl|omega|(rw [if_pos (by omega)])|(rw [if_neg (by omega)]))
  clear h1 h2 h3 h4 h5
  go_enter Tryz.func7,Tryz.ntmps7
  go_wp2
  go_ret
  exact ⟨by rw [HF.out];rfl,hB0⟩
 have k3b:(k==3)=false:=by simp [k3]
 by_cases k4:k=4
 ·subst k4
  by_cases h1:e≠0
  ·have h1b:(e !=0)=true:=by simp [h1]
   have HF:Hid (Stg.err ⟨4,e,sd,c,l⟩=1):=by unfold Hid Stg.err;dsimp only;repeat (first|rfl|omega|(rw [if_pos (by omega)])|(rw [if_neg (by omega)]))
   clear h1
   go_enter Tryz.func7,Tryz.ntmps7
   go_wp2
   go_ret
   exact ⟨by rw [HF.out];rfl,hB0⟩
  have h1b:(e !=0)=false:=by simp;omega
  by_cases h2:c<0
  ·have h2b:decide (c<0)=true:=by simp [h2]
   have HF:Hid (Stg.err ⟨4,e,sd,c,l⟩=2):=by unfold Hid Stg.err;dsimp only;repeat (first|rfl|omega|(rw [if_pos (by omega)])|(rw [if_neg (by omega)]))
   clear h1 h2
   go_enter Tryz.func7,Tryz.ntmps7
   go_wp2
   go_ret
   exact ⟨by rw [HF.out];rfl,hB0⟩
  have h2b:decide (c<0)=false:=by simp;omega
  by_cases h3:10000<c
  ·have h3b:decide (10000<c)=true:=by simp [h3]
   have HF:Hid (Stg.err ⟨4,e,sd,c,l⟩=2):=by unfold Hid Stg.err;dsimp only;repeat (first|rfl|omega|(rw [if_pos (by omega)])|(rw [if_neg (by omega)]))
   clear h1 h2 h3
   go_enter Tryz.func7,Tryz.ntmps7
   go_wp2
   go_ret
   exact ⟨by rw [HF.out];rfl,hB0⟩
  have h3b:decide (10000<c)=false:=by simp;omega
  by_cases h4:l<0
  ·have h4b:decide (l<0)=true:=by simp [h4]
   have HF:Hid (Stg.err ⟨4,e,sd,c,l⟩=2):=by unfold Hid Stg.err;dsimp only;repeat (first|rfl|omega|(rw [if_pos (by omega)])|(rw [if_neg (by omega)]))
   clear h1 h2 h3 h4
   go_enter Tryz.func7,Tryz.ntmps7
   go_wp2
   go_ret
   exact ⟨by rw [HF.out];rfl,hB0⟩
  have h4b:decide (l<0)=false:=by simp;omega
  by_cases h5:1024<l
  ·have h5b:decide (1024<l)=true:=by simp [h5]
   have HF:Hid (Stg.err ⟨4,e,sd,c,l⟩=2):=by unfold Hid Stg.err;dsimp only;repeat (first|rfl|omega|(rw [if_pos (by omega)])|(rw [if_neg (by omega)]))
   clear h1 h2 h3 h4 h5
   go_enter Tryz.func7,Tryz.ntmps7
   go_wp2
   go_ret
   exact ⟨by rw [HF.out];rfl,hB0⟩
  have h5b:decide (1024<l)=false:=by simp;omega
  have HF:Hid (Stg.err ⟨4,e,sd,c,l⟩=0):=by unfold Hid Stg.err;dsimp only;repeat (first|rfl|omega|(rw [if_pos (by omega)])|(rw [if_neg (by omega)]))
  clear h1 h2 h3 h4 h5
  go_enter Tryz.func7,Tryz.ntmps7
  go_wp2
  go_ret
  exact ⟨by rw [HF.out];rfl,hB0⟩
 have k4b:(k==4)=false:=by simp [k4]
 by_cases k5:k<1
 ·have k5b:decide (k<1)=true:=by simp [k5]
  have HF:Hid (Stg.err ⟨k,e,sd,c,l⟩=2):=by unfold Hid Stg.err;dsimp only;repeat (first|rfl|omega|(rw [if_pos (by omega)])|(rw [if_neg (by omega)]))
  clear k1 k2 k3 k4 k5
  go_enter Tryz.func7,Tryz.ntmps7
  go_wp2
  go_ret
  exact ⟨by rw [HF.out];rfl,hB0⟩
 have k5b:decide (k<1)=false:=by simp;omega
 have k6b:decide (4<k)=true:=by simp;omega
 have HF:Hid (Stg.err ⟨k,e,sd,c,l⟩=2):=by unfold Hid Stg.err;dsimp only;repeat (first|rfl|omega|(rw [if_pos (by omega)])|(rw [if_neg (by omega)]))
 clear k1 k2 k3 k4 k5
 go_enter Tryz.func7,Tryz.ntmps7
 go_wp2
 go_ret
 exact ⟨by rw [HF.out];rfl,hB0⟩
end
section
variable {M:Nat→Prop} {w:World} {an ao:Option Addr} {cn co:Nat} {m:Mach}
theorem sepchk_any (hm:Ma M w an cn ao co m) (hme:Hid (m.minErr=0)):
    Calls Tryz.prog 126 #[maV m an cn ao co] w fun e w'=>e= .returned (.int .i64 0)∧Below w.heap.size w w':=by
 have hB0:=(Below.refl w.heap.size w).alloc (Nat.le_refl _) (maO m an cn ao co)
 have hx0:C4 (w.alloc (maO m an cn ao co)) w.heap.size an cn ao co m:=c4_new w
 have hz0:w.heap.size+1≤(w.alloc (maO m an cn ao co)).heap.size:=by simp
 have l1:=hm.next.le
 have l2:=hm.out.le
 have HM:=Lib.hid hm
 have HV0:=valid_any (hm.below hB0)
 rw [(Mach.minErr_ok hme.out).1] at HV0
 have HV:=Lib.hid HV0
 clear hm HV0
 go_enter Tryz.func126,Tryz.ntmps126
 go_upto_region 1 with (fail)
 generalize w.alloc (maO m an cn ao co)=w0 at*
 obtain ⟨d0,d1,d2,d3⟩:=hx0
 go_wp2_with fail
 refine (HV.out).mono ?_
 rintro e w1 ⟨rfl,hb1⟩
 have hx1:C4 w1 w.heap.size an cn ao co m:=C4.below ⟨d0,d1,d2,d3⟩ hb1 (by omega)
 have hB1:=hB0.trans (hb1.mono (by omega))
 have HMi:=Lib.hid (minimal_any (HM.out.below hB1))
 clear d0 d1 d2 d3 hB0 hb1 HV
 obtain ⟨d0,d1,d2,d3⟩:=hx1
 go_wp2_with fail
 refine (HMi.out).mono ?_
 rintro e w2 ⟨b,rfl,hb,hb2⟩
 have hbt:b=true:=hb.out.trans (Mach.minErr_ok hme.out).2
 subst hbt
 have hB2:=hB1.trans (hb2.mono hB1.size)
 clear d0 d1 d2 d3 hB1 hb2 HMi
 go_wp2
 go_ret
 exact ⟨rfl,hB2⟩
theorem ansW_sep {s t:Int} {l:List Int} {f:Bool} (h:ansW (stW m s t) l f):l=m.sepW s t:=h.1
theorem stErr_0 (ok:m.Ok) {s t:Int} (hs:0≤s∧s<m.next.length) (ht:0≤t∧t<m.next.length):stErr m s t=0:=by
 rcases st_cases (Mach.err_of_ok _ ok) s t with h|h|h|h|h
 all_goals first|omega|exact h.2.2.2.2
end
end Go.Proofs.YtjagagpcjpcjjaaGreat
namespace Go.Proofs.YtjagagpcjpcjjaaGreat
namespace Mach
variable {m n i:Mach}
theorem sepW_okS (n:Mach) (s t:Int):n.okS (n.sepW s t):=by
 unfold sepW
 cases h:stW n s t with
 |none=>exact fun y hy=>by simp at hy
 |some w=>
  unfold stW at h
  split at h
  ·exact (first_some h).1.1
  simp at h
end Mach
end Go.Proofs.YtjagagpcjpcjjaaGreat
namespace Go.Proofs.YtjagagpcjpcjjaaGreat
open Go.RowKit
namespace Mach
variable {m:Mach}
theorem chT_words (hn:m.next.length<1000) {s k:Nat}:∀w∈m.chT s (m.chS s) k,m.okS w∧w.length≤1000000:=fun w hw=>by
 have h:∃a b:Int,w=m.sepW a b:=by
  rcases chT_mem k w hw with h|h
  ·exact chS_mem s w h
  exact h
 obtain ⟨a,b,rfl⟩:=h
 exact ⟨sepW_okS m a b,sepW_len hn a b⟩
theorem chS_words (hn:m.next.length<1000) {s:Nat}:∀w∈m.chS s,m.okS w∧w.length≤1000000:=fun w hw=>chT_words hn (s:=s) (k:=0) w hw
theorem chT_bound (hn:m.next.length<1000) {s k:Nat} (hs:s≤m.next.length) (hk:k≤m.next.length):(m.chT s (m.chS s) k).length<1100000:=by
 have h1:=chT_len (m:=m) (s:=s) (C:=m.chS s) k
 have h2:=chS_len (m:=m) s
 have h3:s*m.next.length≤1000*1000:=Nat.mul_le_mul (by omega) (by omega)
 omega
end Mach
section
variable {M:Nat→Prop} {w:World} {an ao:Option Addr} {cn co:Nat} {m:Mach}
theorem charset_any (hm:Ma M w an cn ao co m) (hme:Hid (m.minErr=0)) (hn:Hid (m.next.length<1000)):
    Calls Tryz.prog 75 #[maV m an cn ao co] w fun e w'=>∃(a:Option Addr) (c:Nat) (L:List (List Int)),e= .returned (.tuple #[.slice a L.length c,.int .i64 0])∧Hid (L=m.chW)∧Sl (fun k=>k<w.heap.size) w' a c L∧Below w.heap.size w w':=by
 have hB0:=(Below.refl w.heap.size w).alloc (Nat.le_refl _) (maO m an cn ao co)
 have hx0:C4 (w.alloc (maO m an cn ao co)) w.heap.size an cn ao co m:=c4_new w
 have hz0:w.heap.size+1≤(w.alloc (maO m an cn ao co)).heap.size:=by simp
 have ok:Hid m.Ok:=Mach.ok_of_err m (Mach.minErr_ok hme.out).1
 have hnl:=hn.out
 have HM:=Lib.hid hm
 have HC:=Lib.hid (sepchk_any (hm.below hB0) hme)
 clear hm
 go_enter Tryz.func75,Tryz.ntmps75
 go_upto_region 1 with (fail)
 generalize w.alloc (maO m an cn ao co)=w0 at*
 obtain ⟨d0,d1,d2,d3⟩:=hx0
 go_wp2_with fail
 refine (HC.out).mono ?_
 rintro e w1 ⟨rfl,hb1⟩
 have hx1:C4 w1 w.heap.size an cn ao co m:=C4.below ⟨d0,d1,d2,d3⟩ hb1 (by omega)
 have hB1:=hB0.trans (hb1.mono (by omega))
 have hz1:w.heap.size+1≤w1.heap.size:=by have:=hb1.size;omega
 clear d0 d1 d2 d3 hB0 hb1 HC hz0
 have HS1:Hid (∀w',Below w1.heap.size w1 w'→C4 w' w.heap.size an cn ao co m∧Ma M w' an cn ao co m∧Below w.heap.size w w'):=fun w' h=>
  ⟨hx1.below h (by omega),HM.out.below (hB1.trans (h.mono (by omega))),hB1.trans (h.mono (by omega))⟩
 have hx12:=hx1.2.2.1
 have hO0:Ox (α:=List Int) w1.heap.size w1.heap.size w1 49 (.slice none 0 0) []:=Ox.nil
 have hK0:Hid (([]:List (List Int))=m.chS 0):=rfl
 have hBz:=Below.refl w1.heap.size w1
 clear hx1 hB1
 go_wp2
 go_loopw [5,19] (fun v i wr=>∃(s:Nat) (a':Option Addr) (c':Nat) (K:List (List Int)),s≤m.next.length∧i= .int .i64 s∧v= .slice a' K.length c'∧Hid (K=m.chS s)∧Ox w1.heap.size w1.heap.size wr 49 (.slice a' K.length c') K∧Below w1.heap.size w1 wr) (fun _ i _=>m.next.length-(intOf i).toNat)
 case atStart=>exact ⟨0,none,0,[],by omega,rfl,rfl,hK0,hO0,hBz⟩
 case round=>
  clear hO0 hK0 hBz hx12
  obtain ⟨s,a',c',K,hs,rfl,rfl,hK,hO,hB⟩:=hrel
  obtain ⟨wo,rfl⟩:∃wo:World,wo=wr:=⟨_,rfl⟩
  by_cases hlt:s<m.next.length
  ·have hT0:Hid (K=m.chT s (m.chS s) 0):=hK
   go_wp2
   go_loopw [5,7] (fun v i wr=>∃(k:Nat) (a':Option Addr) (c':Nat) (K:List (List Int)),s+1+k≤m.next.length∧i= .int .i64 ((s+1+k:Nat):Int)∧v= .slice a' K.length c'∧Hid (K=m.chT s (m.chS s) k)∧Ox w1.heap.size w1.heap.size wr 49 (.slice a' K.length c') K∧Below w1.heap.size w1 wr) (fun _ i _=>m.next.length-(intOf i).toNat)
   case atStart=>exact ⟨0,a',c',K,by omega,by go_num,rfl,hT0,hO,hB⟩
   case round=>
    clear hT0 hK hO hB
    obtain ⟨k,a',c',K,hk,rfl,rfl,hK,hO,hB⟩:=hrel
    obtain ⟨wo,rfl⟩:∃wo:World,wo=wr:=⟨_,rfl⟩
    have hSo:=HS1.out _ hB
    have hzo:=hB.size
    by_cases htn:s+1+k<m.next.length
    ·obtain ⟨t,ht⟩:∃t,t=s+1+k:=⟨_,rfl⟩
     rw [←ht] at htn ⊢
     have HT:=Lib.hid ht
     have hKw:Hid (∀l∈K,m.okS l∧l.length≤1000000):=by unfold Hid;rw [hK.out];exact Mach.chT_words hn.out
     have hKl:Hid (K.length<1100000):=by unfold Hid;rw [hK.out];exact Mach.chT_bound hn.out hs (by omega)
     have hKll:=hKl.out
     have hstep:Hid (m.chT s (m.chS s) (k+1)=if K.any (apW m s t)=true then K else K++[m.sepW (s:Int) (t:Int)]):=by
      unfold Hid
      rw [hK.out,HT.out]
      rfl
     have hKs:=hO.toSl (Nat.le_refl _)
     obtain ⟨d0,d1,d2,d3⟩:=hSo.1
     clear ht
     cases hq:K.any (apW m s t) with
     |true=>
      have HSe:=Lib.hid (separated_any (s:=s) (t:=t) hSo.2.1 hKs ok hlt htn hKw hq)
      have hK2:Hid (K=m.chT s (m.chS s) (k+1)):=by unfold Hid;rw [hstep.out,hq,if_pos rfl]
      have htk:(t:Int)+1=((s+1+(k+1):Nat):Int):=by have:=HT.out;omega
      clear hSo hq hKs
      go_wp2_with fail
      refine (HSe.out).mono ?_
      rintro e w3 ⟨rfl,hb3⟩
      have hB3:=hB.trans (hb3.mono hzo)
      have hO3:=Ox.later hO hb3
      clear HSe hb3 hB hO d0 d1 d2 d3
      go_wp2
      go_roundw
      case rel=>exact ⟨k+1,a',c',K,by have:=HT.out;omega,by rw [←htk];go_num,rfl,hK2,hO3,hB3⟩
      case measure=>simp [intOf];omega
     |false=>
      have HSe:=Lib.hid (separated_any (s:=s) (t:=t) hSo.2.1 hKs ok hlt htn hKw hq)
      have hK2:Hid (K++[m.sepW (s:Int) (t:Int)]=m.chT s (m.chS s) (k+1)):=by unfold Hid;rw [hstep.out,hq,if_neg (by simp)]
      have htk:(t:Int)+1=((s+1+(k+1):Nat):Int):=by have:=HT.out;omega
      clear hSo hq hKs
      go_wp2_with fail
      refine (HSe.out).mono ?_
      rintro e w3 ⟨rfl,hb3⟩
      have hB3:=hB.trans (hb3.mono hzo)
      have hO3:=Ox.later hO hb3
      have hS3:=HS1.out _ hB3
      have HSt0:=states_any hS3.2.1 (s:Int) (t:Int) (by unfold i64;omega) (by unfold i64;omega)
      rw [stErr_0 ok.out (s:=(s:Int)) (t:=(t:Int)) (by omega) (by omega)] at HSt0
      have HSt:=Lib.hid HSt0
      clear HSe hb3 hB hO d0 d1 d2 d3 HSt0
      obtain ⟨d0,d1,d2,d3⟩:=hS3.1
      clear hS3
      go_wp2_with fail
      refine (HSt.out).mono ?_
      rintro e w4 ⟨ad,cd,l,f,rfl,hl,hsl,hb4⟩
      have hle:Hid (l=m.sepW (s:Int) (t:Int)):=ansW_sep hl.out
      have hB4:=hB3.trans (hb4.mono hB3.size)
      have hO4:=Ox.later hO3 hb4
      have hS4':Sl (fun k=>(Value.slice a' K.length c').ownBlock=some k∨k<w1.heap.size) w4 ad cd l:=hsl.anti fun k _ hm=>by
       rcases hm with hm|hm
       ·exact (hO3.lt k hm).2
       have:=hB3.size;show k<_;omega
      have hll:=hsl.le
      have hz4:=hB4.size
      clear HSt hB3 hO3 hsl hb4 d0 d1 d2 d3 hl
      go_wp2_with (at_builtin;refine wpList_push_x (n0:=w1.heap.size) (B:=w1.heap.size) (r:=l) (ar:=ad) (cr:=cd) rfl rfl Tryz.underlying22 info_ints rfl rfl (hO4.alloc _) (by simp [go_sem]) (hS4'.alloc _) (by omega) (by simp;omega) ?_)
      intro a9 c9 K9 w9 hK9 hO9 hbk hgr
      have hB9:=(hB4.alloc hz4 (.cells #[.slice ad l.length cd] 49)).grown hgr (by simp;omega) (fun k hk=>(hO4.lt k hk).1)
      have hKn:Hid (K9=m.chT s (m.chS s) (k+1)):=by unfold Hid;rw [hK9.out,hle.out,hK2.out]
      clear hbk hgr hK9 hO4 hB4 hS4' hz4
      go_wp2
      go_roundw
      case rel=>exact ⟨k+1,a9,c9,K9,by have:=HT.out;omega,by rw [←htk];go_num,rfl,hKn,hO9,hB9⟩
      case measure=>simp [intOf];omega
    have hKn : Hid (K = m.chS (s + 1)) := by
     unfold Hid
     rw [hK.out,show k=m.next.length-(s+1) by omega]
     rfl
    have hd2:=hSo.1.2.2.1
    clear hSo
    go_wp2
    go_roundw
    case rel=>exact ⟨s+1,a',c',K,by omega,by go_num,rfl,hKn,hO,hB⟩
    case measure=>simp [intOf];omega
  have hKf:Hid (K=m.chS m.next.length):=by unfold Hid;rw [hK.out,show s=m.next.length by omega]
  have hKl:Hid (K.length<1100000):=by unfold Hid;rw [hK.out];exact Mach.chT_bound (k:=0) hn.out hs (by omega)
  have HSr:=Lib.hid (sorted_any (hO.toSl (Nat.le_refl _)) (by have:=hKl.out;omega) (Lib.hid fun r hr=>by
   rw [hK.out] at hr
   have:=(Mach.chS_words hn.out r hr).2;omega))
  have hBo:=(HS1.out _ hB).2.2
  have hzo:=hBo.size
  have hll:=(hO.toSl (Nat.le_refl _)).le
  go_wp2_with fail
  refine (HSr.out).mono ?_
  rintro e w8 ⟨a8,c8,L8,rfl,hL8,hS8,hb8⟩
  have hLf:Hid (L8=m.chW):=by unfold Hid Mach.chW;rw [hL8.out,hKf.out]
  have hSf:=hS8.anti (M':=fun k=>k<w.heap.size) fun k _ hm=>by show k<_;omega
  have hBf:=hBo.trans (hb8.mono hzo)
  clear HSr hS8 hb8
  go_wp2
  go_ret2
  exact ⟨a8,c8,L8,rfl,hLf,hSf,hBf⟩
end
end Go.Proofs.YtjagagpcjpcjjaaGreat
namespace Go.Proofs.YtjagagpcjpcjjaaGreat
open Go.RowKit Go.Shelf
attribute [local go_sem] Oper.semAt_some
private theorem sum_const' {α:Type} (c:Nat):∀l:List α,(l.map fun _=>c).sum=l.length*c
 |[]=>by simp
 |_::l=>by rw [List.map_cons,List.sum_cons,sum_const' c l,List.length_cons,Nat.succ_mul];omega
section
variable {M:Nat→Prop} {w:World} {an ao:Option Addr} {cn co:Nat} {m:Mach}
theorem wsuite_any (hm:Ma M w an cn ao co m) (extra:Int):
    Calls Tryz.prog 34 #[maV m an cn ao co,.int .i64 extra] w fun e w'=>∃(a:Option Addr) (c:Nat) (L:List (List Int)) (e1:Int),e= .returned (.tuple #[.slice a L.length c,.int .i64 e1])∧Hid (m.wsW extra=(L,e1))∧Sl (fun k=>k<w.heap.size) w' a c L∧Below w.heap.size w w':=by
 refine (callsIn_wide (n:=6)).1 ?_
 have hB0:=(Below.refl w.heap.size w).alloc (Nat.le_refl _) (maO m an cn ao co)
 have hx0:C4 (w.alloc (maO m an cn ao co)) w.heap.size an cn ao co m:=c4_new w
 have hz0:w.heap.size<(w.alloc (maO m an cn ao co)).heap.size:=by simp
 have HM:=Lib.hid hm
 have HV:=Lib.hid (valid_any (hm.below hB0))
 have l1:=hm.next.le
 have l2:=hm.out.le
 clear hm
 refine callsIn_of_wp_marks Tryz.func34 rfl trivial ?_ rfl
 simp only [Tryz.ntmps34,List.size_toArray,List.length_cons,List.length_nil,Nat.reduceAdd,Nat.reduceSub,Array.replicate_succ,Array.replicate_zero,List.push_toArray,List.append_toArray,List.nil_append,List.cons_append]
 obtain ⟨d0,d1,d2,d3⟩:=hx0
 gi_wp2_with fail
 generalize w.alloc (maO m an cn ao co)=w0 at*
 refine ⟨trivial,(callsIn_wide.2 HV.out).mono ?_⟩
 rintro e w1 ⟨rfl,hb1⟩
 have hx1:C4 w1 w.heap.size an cn ao co m:=C4.below ⟨d0,d1,d2,d3⟩ hb1 hz0
 have hB1:=hB0.trans (hb1.mono (by omega))
 have hz1:w.heap.size<w1.heap.size:=by have:=hb1.size;omega
 clear d0 d1 d2 d3 hB0 hz0 hb1 HV
 by_cases he:m.err=0
 ·have he':(m.err !=0)=false:=by simp [he]
  have HE:=Lib.hid he
  have ok:Hid m.Ok:=Mach.ok_of_err m HE.out
  clear he
  by_cases hex:extra<0∨3<extra
  ·have hR:Hid (m.wsW extra=([],2)):=by unfold Hid Mach.wsW;rw [if_neg (by simp [HE.out]),if_pos hex]
   by_cases h1:extra<0
   ·clear hex
    gi_wp2
    exact ⟨.tuple #[.slice none 0 0,.int .i64 2],by simp [results,Tryz.results34,go_sem],none,0,[],2,rfl,hR,Sl.nil _ _ _ (by unfold maxLen;omega),hB1⟩
   have h2:3<extra:=hex.elim (fun e=>absurd e h1) id
   clear hex
   gi_wp2
   exact ⟨.tuple #[.slice none 0 0,.int .i64 2],by simp [results,Tryz.results34,go_sem],none,0,[],2,rfl,hR,Sl.nil _ _ _ (by unfold maxLen;omega),hB1⟩
  have h1:decide (extra<0)=false:=decide_eq_false (fun e=>hex (.inl e))
  have h2:decide (3<extra)=false:=decide_eq_false (fun e=>hex (.inr e))
  have HX:=Lib.hid hex
  have hwr:IntKind.i64.wrap (extra+1)=extra+1:=IntWalk.i64_in _ (by omega)
  have ht0:=min_any (HM.out.below hB1)
  rw [HE.out] at ht0
  have HMi:=Lib.hid ht0
  obtain ⟨d0,d1,d2,d3⟩:=hx1
  clear hex ht0
  gi_wp2_with fail
  refine ⟨trivial,(callsIn_wide.2 HMi.out).mono ?_⟩
  rintro e w3 ⟨an',cn',ao',co',t,rfl,ht,hTm,hb3⟩
  have htm:Hid (t=m.minF):=by unfold Hid;rw [ht.out,Mach.minOf_eq HE.out]
  have okt:Hid t.Ok:=by rw [htm.out];exact Mach.minF_ok ok.out
  have hme:Hid (t.minErr=0):=by unfold Hid;rw [htm.out];exact (Mach.minF_min ok.out).1
  have htn:Hid (t.next.length<1000):=by have:=okt.out.n1;unfold Hid;omega
  have hti:Hid (t.inputs=m.inputs):=by unfold Hid;rw [htm.out];rfl
  have HTm:=Lib.hid (hTm.ext (M':=fun k=>k<w.heap.size) (Ext.sub_only (fun k _ e=>by omega)))
  have hB3:=hB1.trans (hb3.mono (by omega))
  have hz3:w.heap.size<w3.heap.size:=by have:=hb3.size;omega
  have lt1:=hTm.next.le
  have lt2:=hTm.out.le
  clear d0 d1 d2 d3 hB1 hz1 HMi hTm hb3
  have hba:=(Below.refl w3.heap.size w3).alloc (Nat.le_refl _) (maO t an' cn' ao' co')
  have hc4:C4 (w3.alloc (maO t an' cn' ao' co')) w3.heap.size an' cn' ao' co' t:=c4_new w3
  have hB4:=hB3.trans (hba.mono (by omega))
  have HT4:=Lib.hid (HTm.out.below hba)
  have hz4:w3.heap.size<(w3.alloc (maO t an' cn' ao' co')).heap.size:=by simp
  have HCv:=Lib.hid (cover_any HT4.out (Mach.minErr_ok hme.out).1)
  clear hba hB3 HTm
  obtain ⟨d0,d1,d2,d3⟩:=hc4
  gi_wp2_with fail
  generalize w3.alloc (maO t an' cn' ao' co')=w4 at*
  refine ⟨trivial,(callsIn_wide.2 HCv.out).mono ?_⟩
  rintro e w5 ⟨aA,cA,A,rfl,hA,hAs,hb5⟩
  have hc5:C4 w5 w3.heap.size an' cn' ao' co' t:=C4.below ⟨d0,d1,d2,d3⟩ hb5 (by omega)
  have hB5:=hB4.trans (hb5.mono (by omega))
  have HT5:=Lib.hid (HT4.out.below hb5)
  have HA5:=Lib.hid (hAs.anti (M':=fun k=>k<w.heap.size) (fun k _ e=>by omega))
  have hz5:w3.heap.size<w5.heap.size:=by have:=hb5.size;omega
  have lA:=hAs.le
  have hAl:Hid (A.length≤1000∧∀p∈A,t.okS p∧p.length≤1000):=by
   have hn1:=okt.out.n1
   unfold Hid;rw [hA.out]
   refine ⟨?_,fun p hp=> ?_⟩
   ·rw [List.length_map]
    have h1:=t.cov_len t.next.length
    have h2:=Mach.bfs_le okt.out t.next.length
    unfold Mach.covW
    omega
   obtain ⟨q,hq,rfl⟩:=List.mem_map.1 hp
   have h1:=Mach.cov_all okt.out t.next.length q hq
   exact ⟨h1.2.2.1,by have:=h1.2.2.2.1;omega⟩
  clear d0 d1 d2 d3 hB4 hz4 HCv HT4 hAs hb5
  have HUp:=Lib.hid (upto_any (w:=w5) t.inputs (extra+1))
  obtain ⟨d0,d1,d2,d3⟩:=hc5
  gi_wp2_with fail
  refine ⟨trivial,(callsIn_wide.2 HUp.out).mono ?_⟩
  rintro e w6 ⟨aX,cX,X,e6,rfl,hX,hXs,hb6⟩
  have hc6:C4 w6 w3.heap.size an' cn' ao' co' t:=C4.below ⟨d0,d1,d2,d3⟩ hb6 (by omega)
  have hB6:=hB5.trans (hb6.mono (by omega))
  have HT6:=Lib.hid (HT5.out.below hb6)
  have HA6:=Lib.hid (HA5.out.below hb6)
  have HX6:=Lib.hid (hXs.anti (M':=fun k=>k<w.heap.size) (fun k _ e=>by omega))
  have hz6:w3.heap.size<w6.heap.size:=by have:=hb6.size;omega
  have lX:=hXs.le
  have hXe:Hid (uptW m.inputs (extra+1)=(X,e6)):=by unfold Hid;rw [←hti.out];exact hX.out
  have hXl:Hid (X.length≤10001∧∀x∈X,InW m.inputs (extra+1).toNat x):=by
   have h:=uptW_in m.inputs (extra+1)
   rw [hXe.out] at h
   exact ⟨h.2,h.1⟩
  clear d0 d1 d2 d3 hB5 hz5 HUp HT5 HA5 hXs hb6
  by_cases he6:e6=0
  ·have he6b:(e6 !=0)=false:=by simp [he6]
   have HE6:=Lib.hid he6
   clear he6
   have HCh:=Lib.hid (charset_any HT6.out hme htn)
   obtain ⟨d0,d1,d2,d3⟩:=hc6
   gi_wp2_with fail
   refine ⟨trivial,(callsIn_wide.2 HCh.out).mono ?_⟩
   rintro e w7 ⟨aC,cC,C,rfl,hC,hCs,hb7⟩
   have hB7:=hB6.trans (hb7.mono (by omega))
   have HA7:=Lib.hid (HA6.out.below hb7)
   have HX7:=Lib.hid (HX6.out.below hb7)
   have HC7:=Lib.hid (hCs.anti (M':=fun k=>k<w.heap.size) (fun k _ e=>by omega))
   have hz7:w.heap.size<w7.heap.size:=by have:=hb7.size;omega
   have lC:=hCs.le
   clear d0 d1 d2 d3 hB6 hz6 HCh HT6 HA6 HX6 hCs hb7
   have hCm:Hid (C.length<1000000∧∀v∈C,v.length≤1000000):=by
    unfold Hid;rw [hC.out]
    refine ⟨?_,fun v hv=> ?_⟩
    ·have h1:=Mach.chW_len (m:=t)
     have h2:t.next.length*t.next.length≤999*999:=Nat.mul_le_mul (by have:=htn.out;omega) (by have:=htn.out;omega)
     omega
    obtain ⟨x,y,rfl⟩:=Mach.chW_mem hv
    exact Mach.sepW_len htn.out x y
   have hA1:=hAl.out.1
   have hX1:=hXl.out.1
   have hC1:=hCm.out.1
   have hAX:A.length*X.length≤1000*10001:=Nat.mul_le_mul hA1 hX1
   obtain ⟨P,hP⟩:∃P,P=A.length*X.length:=⟨_,rfl⟩
   rw [←hP] at hAX
   have hw1:IntKind.i64.wrap ((A.length:Int)*(X.length:Int))=(P:Int):=by
    rw [←Int.natCast_mul,←hP];exact IntWalk.i64_in _ (by omega)
   have HP:=Lib.hid hP
   clear hP
   by_cases hC0:C.length=0
   ·have hcb:(((C.length:Nat):Int)==0)=true:=by rw [hC0];rfl
    have hw0:IntKind.i64.wrap (P:Int)=(P:Int):=IntWalk.i64_in _ (by omega)
    obtain ⟨D0,hD0⟩:∃D0:List (List Int),D0=[[]]:=⟨_,rfl⟩
    have hnn:Hid (Mach.noNil t.chW=D0):=by unfold Hid Mach.noNil;rw [←hC.out,if_pos (List.length_eq_zero_iff.1 hC0),hD0]
    have hDl:Hid (D0.length=1):=by unfold Hid;rw [hD0];rfl
    have hDm:Hid (D0.length<1000000∧∀v∈D0,v.length≤1000000):=by unfold Hid;rw [hD0];simp
    have HN:Hid (P=A.length*X.length*D0.length):=by unfold Hid;rw [HP.out,hDl.out,Nat.mul_one]
    have hbW:Below w7.heap.size w7 (w7.alloc (.cells #[.slice none 0 0] 49)):=(Below.refl _ _).alloc (by simp) _
    have HA8:=Lib.hid (HA7.out.below hbW)
    have HX8:=Lib.hid (HX7.out.below hbW)
    have HC8:Hid (Sl (fun k=>k<w.heap.size) (w7.alloc (.cells #[.slice none 0 0] 49)) (some ⟨w7.heap.size,0,none⟩) 1 D0):=⟨by rw [hD0];exact Nat.le_refl _,by unfold maxLen;omega,fun j x h=>by
     rw [hD0] at h
     rcases j with _|j
     ·simp at h;subst h
      exact ⟨w7.heap.size,0,[.slice none 0 0],rfl,by simp,by omega,⟨none,0,rfl,Sl.nil _ _ _ (by unfold maxLen;omega)⟩,fun i u hi=>by
       rcases i with _|i
       ·cases hi;exact (Boxed.new w7 _ _).cell
       simp at hi⟩
     simp at h⟩
    clear hbW hD0
    have hsu:Hid (m.wsW extra=if 10000<P then ([],11) else (maxW (Mach.prodW A X D0),0)):=by
     unfold Hid Mach.wsW
     rw [if_neg (by simp [HE.out]),if_neg HX.out,hXe.out,if_neg (by simp [HE6.out]),←ht.out,←hA.out,hnn.out,←HN.out]
    by_cases hbig:10000<P
    ·have hbd:decide (10000<(P:Int))=true:=decide_eq_true (by omega)
     have hR:Hid (m.wsW extra=([],11)):=by unfold Hid;rw [hsu.out,if_pos hbig]
     clear hbig
     gi_wp2
     exact ⟨.tuple #[.slice none 0 0,.int .i64 11],by simp [results,Tryz.results34,go_sem],none,0,[],_,rfl,hR,Sl.nil _ _ _ (by unfold maxLen;omega),(hB7.alloc (by omega) _)⟩
    have hbd:decide (10000<(P:Int))=false:=decide_eq_false (by omega)
    have hR:Hid (m.wsW extra=(maxW (Mach.prodW A X D0),0)):=by unfold Hid;rw [hsu.out,if_neg hbig]
    have hNs:P≤10000:=by omega
    clear hbig
    gi_wp2_with fail
    refine ⟨trivial,(callsIn_wide.2 prods_any).mono ?_⟩
    rintro e w9 ⟨rfl,hw9⟩
    have z8:((w7.alloc (.cells #[.slice none 0 0] 49)).alloc (.cells #[.slice none 0 0] 22)).heap.size=(w7.heap.size+1)+1:=by simp
    have bAll:=(((Boxed.new (w7.alloc (.cells #[.slice none 0 0] 49)) 22 (.slice none 0 0)).alloc (.cells #[.slice aA A.length cA] 22)).alloc (.cells #[.slice aX X.length cX] 22)).alloc (.cells #[.slice (some ⟨w7.heap.size,0,none⟩) 1 1] 22)
    have bA:=((Boxed.new ((w7.alloc (.cells #[.slice none 0 0] 49)).alloc (.cells #[.slice none 0 0] 22)) 22 (.slice aA A.length cA)).alloc (.cells #[.slice aX X.length cX] 22)).alloc (.cells #[.slice (some ⟨w7.heap.size,0,none⟩) 1 1] 22)
    have bX:=(Boxed.new (((w7.alloc (.cells #[.slice none 0 0] 49)).alloc (.cells #[.slice none 0 0] 22)).alloc (.cells #[.slice aA A.length cA] 22)) 22 (.slice aX X.length cX)).alloc (.cells #[.slice (some ⟨w7.heap.size,0,none⟩) 1 1] 22)
    have bC:=Boxed.new ((((w7.alloc (.cells #[.slice none 0 0] 49)).alloc (.cells #[.slice none 0 0] 22)).alloc (.cells #[.slice aA A.length cA] 22)).alloc (.cells #[.slice aX X.length cX] 22)) 22 (.slice (some ⟨w7.heap.size,0,none⟩) 1 1)
    have hb9:Below (w7.heap.size+1) (w7.alloc (.cells #[.slice none 0 0] 49)) (((((w7.alloc (.cells #[.slice none 0 0] 49)).alloc (.cells #[.slice none 0 0] 22)).alloc (.cells #[.slice aA A.length cA] 22)).alloc (.cells #[.slice aX X.length cX] 22)).alloc (.cells #[.slice (some ⟨w7.heap.size,0,none⟩) 1 1] 22)):=((((Below.refl _ _).alloc (by simp) _).alloc (by simp) _).alloc (by simp) _).alloc (by simp) _
    have z9:(((((w7.alloc (.cells #[.slice none 0 0] 49)).alloc (.cells #[.slice none 0 0] 22)).alloc (.cells #[.slice aA A.length cA] 22)).alloc (.cells #[.slice aX X.length cX] 22)).alloc (.cells #[.slice (some ⟨w7.heap.size,0,none⟩) 1 1] 22)).heap.size=(w7.heap.size+1)+4:=by simp
    simp only [World.size_alloc] at bAll bA bX bC
    rw [←hw9] at bAll bA bX bC hb9 z9
    clear hw9
    have Z9:=Lib.hid z9
    have hz9:(w7.heap.size+1)+4≤w9.heap.size:=by omega
    have hz9b:w9.heap.size≤(w7.heap.size+1)+4:=by omega
    clear z9 z8
    have hB9:=(hB7.alloc (by omega) _).trans (hb9.mono (by omega))
    have hA9:=(HA8.out.anti (M':=fun k=>k=(w7.heap.size+1)) fun k hk e=>absurd e (by rw [World.size_alloc] at hk;omega)).below (hb9.mono (by simp))
    have hX9:=(HX8.out.anti (M':=fun k=>k=(w7.heap.size+1)) fun k hk e=>absurd e (by rw [World.size_alloc] at hk;omega)).below (hb9.mono (by simp))
    have hC9:=(HC8.out.anti (M':=fun k=>k=(w7.heap.size+1)) fun k hk e=>absurd e (by rw [World.size_alloc] at hk;omega)).below (hb9.mono (by simp))
    have HA9:=Lib.hid hA9
    have HX9:=Lib.hid hX9
    have HC9:=Lib.hid hC9
    have HbA:=Lib.hid bA
    have HbX:=Lib.hid bX
    have HbC:=Lib.hid bC
    have sA:Hid (Sm7 A):=⟨by omega,fun r hr=>by have:=(hAl.out.2 r hr).2;omega⟩
    have sX:Hid (Sm7 X):=⟨by omega,fun r hr=>by have:=(hXl.out.2 r hr).2;have:=HX.out;omega⟩
    have sC:Hid (Sm7 D0):=hDm
    have htot:Hid ((A.flatMap (pMid X D0)).length≤10000):=by
     have h1:(A.flatMap (pMid X D0)).length=A.length*(X.length*D0.length):=by
      have hp:∀p,(pMid X D0 p).length=X.length*D0.length:=fun p=>by
       unfold pMid
       rw [List.length_flatMap]
       rw [show (X.map fun x=>(pIn D0 p x).length)=X.map fun _=>D0.length from List.map_congr_left fun x _=>by unfold pIn;simp]
       exact sum_const' _ _
      rw [List.length_flatMap,show (A.map fun p=>(pMid X D0 p).length)=A.map fun _=>X.length*D0.length from List.map_congr_left fun p _=>hp p]
      exact sum_const' _ _
     have h2:=HN.out
     unfold Hid
     rw [h1,←Nat.mul_assoc,←h2]
     omega
    have hsm:Hid (Small9 (A.flatMap (pMid X D0))):=by
     refine ⟨by have:=htot.out;omega,fun r hr=> ?_⟩
     obtain ⟨p,hp,hr⟩:=List.mem_flatMap.1 hr
     unfold pMid at hr
     obtain ⟨x,hx,hr⟩:=List.mem_flatMap.1 hr
     unfold pIn at hr
     obtain ⟨v,hv,rfl⟩:=List.mem_map.1 hr
     have h1:=(hAl.out.2 p hp).2
     have h2:=sX.out.2 x hx
     have h3:=hDm.out.2 v hv
     simp only [List.length_append]
     omega
    clear hA9 hX9 hC9 bA bX bC hb9 HA8 HX8 HC8
    gi_wp2_with fail
    refine wpIn_range_Q ((w7.heap.size+1)) 13 rfl (by omega) (gf:=129) (lb:= #[.pointer (some ⟨(w7.heap.size+1)+1,0,none⟩),.pointer (some ⟨(w7.heap.size+1)+1+1,0,none⟩),.pointer (some ⟨(w7.heap.size+1)+1+1+1,0,none⟩)]) rfl trivial (enters_of Tryz.func129 (by kernel_rfl) rfl)
     (fun K W=>∃a c,Boxed W (w7.heap.size+1) 22 (.slice a K.length c)∧Ox w9.heap.size w9.heap.size W 49 (.slice a K.length c) K∧Below w.heap.size w W)
     ?own (xs:=A.flatMap (pMid X D0)) ?seq ?start ?assign ?body ?done
    case own=>
     rintro s W W' row ⟨a,c,h1,h2,h3⟩ hg hr
     exact ⟨a,c,boxed_own (β:=Unit) (w7.heap.size+1) 22 (fun _=> .slice a s.length c) () W W' row h1 hg (fun r e=>(hr r e).2),Ow.turn h2 hg (fun r e=>(hr r e).2),ownFrom_below (β:=Unit) (n₀:=w.heap.size) (B:=w9.heap.size) (w₀:=w) (Nat.le_refl _) (by omega) () W W' row h3 hg hr⟩
    case seq=>
     intro l J' W hW hJ' hY h0'
     exact prods1_in (n:=5) (by omega) l (w7.heap.size+1) ((w7.heap.size+1)+1) ((w7.heap.size+1)+1+1) ((w7.heap.size+1)+1+1+1) J' w9 W (Kep.of_below hW (Nat.le_refl _)) hJ' hY HbA.out.cell HbX.out.cell (by rw [hDl.out];exact HbC.out.cell) (by omega) (by omega) (by omega) HA9.out HX9.out HC9.out rfl rfl rfl sA sX sC h0'
    case start=>exact ⟨none,0,bAll,Ox.nil,hB9⟩
    case assign=>
     intro l v W K hK
     gi_wp2
     exact hK
    case body=>
     rintro l K x ax cx W0 W1 hl ⟨a,c,b0,hO,hB⟩ hgo hz01 hzw hs hpx
     have b1:=hgo (fun _ W=>Boxed W (w7.heap.size+1) 22 (.slice a K.length c)) ((boxed_own _ _ _).from _) b0
     have hO1:Ox w9.heap.size w9.heap.size W1 49 (.slice a K.length c) K:=hgo (fun _ W=>Ox w9.heap.size w9.heap.size W 49 (.slice a K.length c) K) (fun s A B row h hg hr=>Ow.turn h hg fun r e=>(hr r e).2) hO
     have hB1:=hgo (fun _ W=>Below w.heap.size w W) (ownFrom_below (Nat.le_refl _) (by omega)) hB
     have hs1:Sl (fun k=>(Value.slice a K.length c).ownBlock=some k∨k<w9.heap.size) W1 ax cx x:=hs.anti fun k _ hm=>by
      rcases hm with hm|hm
      ·exact (hO.lt k hm).2
      show k<_;omega
     have hKl:K.length<10000:=by have:=hpx.length_le;have:=htot.out;rw [List.length_append,List.length_singleton] at*;omega
     have c1:=b1.cell
     have f1:=b1.frozen
     have hz1:w9.heap.size≤W1.heap.size:=by omega
     have hxle:=hs1.le
     simp only [List.setIfInBounds_toArray,List.set_cons_zero,List.set_cons_succ]
     gi_wp2_with (gi_at_builtin;refine wpListIn_push_x (n0:=w9.heap.size) (B:=w9.heap.size) (r:=x) (ar:=ax) (cr:=cx) rfl rfl Tryz.underlying22 info_ints rfl rfl (hO1.alloc _) (by simp [go_sem]) (hs1.alloc _) (by omega) (by simp;omega) ?_;intro a5 c5 l5 w5 hl5 hO5 hbk hgr;have b5:=(b1.alloc (.cells #[.slice ax x.length cx] 49)).kept hgr (fun e=>by have:=(hO1.lt _ e.symm).1;omega);have c5':=b5.cell;have f5:=b5.frozen)
     have hko:=((KeepsOthers.alloc W1 (.cells #[.slice ax x.length cx] 49)).trans (KeepsOthers.of_grownBy hgr (fun j o e ho=>by
      obtain ⟨cur,hc⟩:=Ow.cells (hO1.alloc (.cells #[.slice ax x.length cx] 49)) e
      rw [hc] at ho;cases ho;rfl))).trans (KeepsOthers.setCell w5 ⟨(w7.heap.size+1),0,none⟩ (.slice a5 l5.length c5))
     refine ⟨hko.from _,⟨hko.1,fun k hk hb=> ?_⟩,?_⟩
     ·rw [Below.heap_setCell _ _ _ _ (fun e=>hb e),hgr.block k (by simp;omega) (fun e=>by have:=(hO1.lt k e.symm).1;omega),Below.heap_alloc _ _ _ (by omega)]
     rw [←hl5.out]
     exact ⟨a5,c5,b5.set _,Ow.setOther hO5 (p:=⟨(w7.heap.size+1),0,none⟩) (Or.inr (show (w7.heap.size+1)<w9.heap.size by omega)) (fun k hk=>by have:=(hO5.lt k hk).1;show k≠(w7.heap.size+1);omega) _,
      ((hB1.alloc (by omega) _).grown hgr (by simp;omega) (fun k hk=>by have:=(hO1.lt k hk).1;omega)).setCell (p:=⟨(w7.heap.size+1),0,none⟩) (by show w.heap.size≤(w7.heap.size+1);omega) _⟩
    case done=>
     rintro D W hD ⟨a,c,bW,hO,hB⟩ hK
     obtain ⟨F,hF⟩:∃F,F=A.flatMap (pMid X D0):=⟨_,rfl⟩
     rw [←hF] at bW hO hsm
     have HF:=Lib.hid hF
     clear hF
     have cW:=bW.cell
     have hsl:=hO.toSl (Nat.le_refl _)
     have hll:=hsl.le
     have hzW:w9.heap.size≤W.heap.size:=by have:=(Array.getElem?_eq_some_iff.1 hK).1;omega
     have HMx:=Lib.hid (max_any hsl hsm)
     clear hsl hO
     gi_wp2_with fail
     refine ⟨trivial,(callsIn_wide.2 HMx.out).mono ?_⟩
     rintro e w11 ⟨a11,c11,L11,rfl,hL11,hS11,hb11⟩
     have hDl:=(Array.getElem?_eq_some_iff.1 hK).1
     have hK2:w11.heap[D]? =some (.deferred (some [])):=(hb11.block _ hDl).trans hK
     gi_wp2
     refine ⟨by simp,.inl ⟨_,_,rfl,run_takeDeferred hK2,?_⟩⟩
     refine ⟨.tuple #[.slice a11 L11.length c11,.int .i64 0],by simp [results,Tryz.results34,go_sem],a11,c11,L11,0,rfl,?_,?_,?_⟩
     ·unfold Hid;rw [hR.out,hL11.out,HF.out];rfl
     ·exact (hS11.ext (M':=fun k=>k<W.heap.size) ⟨by simp,fun k hk hm=>World.putObj_heap_other (fun e=>hm (by rw [e];exact hDl)),fun _ _ h=>h⟩).anti fun k _ hm=>by have:=hB.size;show k<_;omega
     exact (hB.trans (hb11.mono hB.size)).trans (belowK_b (w:=w) (Nat.le_refl _) w11 D _ _ (by omega) hK2 rfl rfl)
   have hcb:(((C.length:Nat):Int)==0)=false:=by rw [beq_eq_false_iff_ne];omega
   obtain ⟨N,hN⟩:∃N,N=P*C.length:=⟨_,rfl⟩
   have hNb:N≤10001000*1000000:=by rw [hN];exact Nat.mul_le_mul (by omega) (by omega)
   have hw2:IntKind.i64.wrap ((P:Int)*(C.length:Int))=(N:Int):=by
    rw [←Int.natCast_mul,←hN];exact IntWalk.i64_in _ (by omega)
   have HN:Hid (N=A.length*X.length*C.length):=by unfold Hid;rw [hN,HP.out]
   clear hN
   have hnn:Hid (Mach.noNil t.chW=C):=by unfold Hid Mach.noNil;rw [←hC.out,if_neg (fun e=>hC0 (by rw [e];rfl))]
   have hsu:Hid (m.wsW extra=if 10000<N then ([],11) else (maxW (Mach.prodW A X C),0)):=by
    unfold Hid Mach.wsW
    rw [if_neg (by simp [HE.out]),if_neg HX.out,hXe.out,if_neg (by simp [HE6.out]),←ht.out,←hA.out,hnn.out,←HN.out]
   by_cases hbig:10000<N
   ·have hbd:decide (10000<(N:Int))=true:=decide_eq_true (by omega)
    have hR:Hid (m.wsW extra=([],11)):=by unfold Hid;rw [hsu.out,if_pos hbig]
    clear hbig
    gi_wp2
    exact ⟨.tuple #[.slice none 0 0,.int .i64 11],by simp [results,Tryz.results34,go_sem],none,0,[],_,rfl,hR,Sl.nil _ _ _ (by unfold maxLen;omega),hB7⟩
   have hbd:decide (10000<(N:Int))=false:=decide_eq_false (by omega)
   have hR:Hid (m.wsW extra=(maxW (Mach.prodW A X C),0)):=by unfold Hid;rw [hsu.out,if_neg hbig]
   have hNs:N≤10000:=by omega
   clear hbig
   gi_wp2_with fail
   refine ⟨trivial,(callsIn_wide.2 prods_any).mono ?_⟩
   rintro e w9 ⟨rfl,hw9⟩
   have z8:(w7.alloc (.cells #[.slice none 0 0] 22)).heap.size=w7.heap.size+1:=by simp
   have bAll:=(((Boxed.new w7 22 (.slice none 0 0)).alloc (.cells #[.slice aA A.length cA] 22)).alloc (.cells #[.slice aX X.length cX] 22)).alloc (.cells #[.slice aC C.length cC] 22)
   have bA:=((Boxed.new (w7.alloc (.cells #[.slice none 0 0] 22)) 22 (.slice aA A.length cA)).alloc (.cells #[.slice aX X.length cX] 22)).alloc (.cells #[.slice aC C.length cC] 22)
   have bX:=(Boxed.new ((w7.alloc (.cells #[.slice none 0 0] 22)).alloc (.cells #[.slice aA A.length cA] 22)) 22 (.slice aX X.length cX)).alloc (.cells #[.slice aC C.length cC] 22)
   have bC:=Boxed.new (((w7.alloc (.cells #[.slice none 0 0] 22)).alloc (.cells #[.slice aA A.length cA] 22)).alloc (.cells #[.slice aX X.length cX] 22)) 22 (.slice aC C.length cC)
   have hb9:Below w7.heap.size w7 ((((w7.alloc (.cells #[.slice none 0 0] 22)).alloc (.cells #[.slice aA A.length cA] 22)).alloc (.cells #[.slice aX X.length cX] 22)).alloc (.cells #[.slice aC C.length cC] 22)):=((((Below.refl _ _).alloc (Nat.le_refl _) _).alloc (by simp) _).alloc (by simp;omega) _).alloc (by simp;omega) _
   have z9:((((w7.alloc (.cells #[.slice none 0 0] 22)).alloc (.cells #[.slice aA A.length cA] 22)).alloc (.cells #[.slice aX X.length cX] 22)).alloc (.cells #[.slice aC C.length cC] 22)).heap.size=w7.heap.size+4:=by simp
   simp only [World.size_alloc] at bA bX bC
   rw [←hw9] at bAll bA bX bC hb9 z9
   clear hw9
   have Z9:=Lib.hid z9
   have hz9:w7.heap.size+4≤w9.heap.size:=by omega
   have hz9b:w9.heap.size≤w7.heap.size+4:=by omega
   clear z9 z8
   have hB9:=hB7.trans (hb9.mono (by omega))
   have hA9:=(HA7.out.anti (M':=fun k=>k=w7.heap.size) fun k hk e=>absurd e (by omega)).below hb9
   have hX9:=(HX7.out.anti (M':=fun k=>k=w7.heap.size) fun k hk e=>absurd e (by omega)).below hb9
   have hC9:=(HC7.out.anti (M':=fun k=>k=w7.heap.size) fun k hk e=>absurd e (by omega)).below hb9
   have HA9:=Lib.hid hA9
   have HX9:=Lib.hid hX9
   have HC9:=Lib.hid hC9
   have HbA:=Lib.hid bA
   have HbX:=Lib.hid bX
   have HbC:=Lib.hid bC
   have sA:Hid (Sm7 A):=⟨by omega,fun r hr=>by have:=(hAl.out.2 r hr).2;omega⟩
   have sX:Hid (Sm7 X):=⟨by omega,fun r hr=>by have:=(hXl.out.2 r hr).2;have:=HX.out;omega⟩
   have sC:Hid (Sm7 C):=hCm
   have htot:Hid ((A.flatMap (pMid X C)).length≤10000):=by
    have h1:(A.flatMap (pMid X C)).length=A.length*(X.length*C.length):=by
     have hp:∀p,(pMid X C p).length=X.length*C.length:=fun p=>by
      unfold pMid
      rw [List.length_flatMap]
      rw [show (X.map fun x=>(pIn C p x).length)=X.map fun _=>C.length from List.map_congr_left fun x _=>by unfold pIn;simp]
      exact sum_const' _ _
     rw [List.length_flatMap,show (A.map fun p=>(pMid X C p).length)=A.map fun _=>X.length*C.length from List.map_congr_left fun p _=>hp p]
     exact sum_const' _ _
    have h2:=HN.out
    unfold Hid
    rw [h1,←Nat.mul_assoc,←h2]
    omega
   have hsm:Hid (Small9 (A.flatMap (pMid X C))):=by
    refine ⟨by have:=htot.out;omega,fun r hr=> ?_⟩
    obtain ⟨p,hp,hr⟩:=List.mem_flatMap.1 hr
    unfold pMid at hr
    obtain ⟨x,hx,hr⟩:=List.mem_flatMap.1 hr
    unfold pIn at hr
    obtain ⟨v,hv,rfl⟩:=List.mem_map.1 hr
    have h1:=(hAl.out.2 p hp).2
    have h2:=sX.out.2 x hx
    have h3:=hCm.out.2 v hv
    simp only [List.length_append]
    omega
   clear hA9 hX9 hC9 bA bX bC hb9 HA7 HX7 HC7
   gi_wp2_with fail
   refine wpIn_range_Q (w7.heap.size) 13 rfl (by omega) (gf:=129) (lb:= #[.pointer (some ⟨w7.heap.size+1,0,none⟩),.pointer (some ⟨w7.heap.size+1+1,0,none⟩),.pointer (some ⟨w7.heap.size+1+1+1,0,none⟩)]) rfl trivial (enters_of Tryz.func129 (by kernel_rfl) rfl)
    (fun K W=>∃a c,Boxed W w7.heap.size 22 (.slice a K.length c)∧Ox w9.heap.size w9.heap.size W 49 (.slice a K.length c) K∧Below w.heap.size w W)
    ?own (xs:=A.flatMap (pMid X C)) ?seq ?start ?assign ?body ?done
   case own=>
    rintro s W W' row ⟨a,c,h1,h2,h3⟩ hg hr
    exact ⟨a,c,boxed_own (β:=Unit) w7.heap.size 22 (fun _=> .slice a s.length c) () W W' row h1 hg (fun r e=>(hr r e).2),Ow.turn h2 hg (fun r e=>(hr r e).2),ownFrom_below (β:=Unit) (n₀:=w.heap.size) (B:=w9.heap.size) (w₀:=w) (Nat.le_refl _) (by omega) () W W' row h3 hg hr⟩
   case seq=>
    intro l J' W hW hJ' hY h0'
    exact prods1_in (n:=5) (by omega) l w7.heap.size (w7.heap.size+1) (w7.heap.size+1+1) (w7.heap.size+1+1+1) J' w9 W (Kep.of_below hW (Nat.le_refl _)) hJ' hY HbA.out.cell HbX.out.cell HbC.out.cell (by omega) (by omega) (by omega) HA9.out HX9.out HC9.out rfl rfl rfl sA sX sC h0'
   case start=>exact ⟨none,0,bAll,Ox.nil,hB9⟩
   case assign=>
    intro l v W K hK
    gi_wp2
    exact hK
   case body=>
    rintro l K x ax cx W0 W1 hl ⟨a,c,b0,hO,hB⟩ hgo hz01 hzw hs hpx
    have b1:=hgo (fun _ W=>Boxed W w7.heap.size 22 (.slice a K.length c)) ((boxed_own _ _ _).from _) b0
    have hO1:Ox w9.heap.size w9.heap.size W1 49 (.slice a K.length c) K:=hgo (fun _ W=>Ox w9.heap.size w9.heap.size W 49 (.slice a K.length c) K) (fun s A B row h hg hr=>Ow.turn h hg fun r e=>(hr r e).2) hO
    have hB1:=hgo (fun _ W=>Below w.heap.size w W) (ownFrom_below (Nat.le_refl _) (by omega)) hB
    have hs1:Sl (fun k=>(Value.slice a K.length c).ownBlock=some k∨k<w9.heap.size) W1 ax cx x:=hs.anti fun k _ hm=>by
     rcases hm with hm|hm
     ·exact (hO.lt k hm).2
     show k<_;omega
    have hKl:K.length<10000:=by have:=hpx.length_le;have:=htot.out;rw [List.length_append,List.length_singleton] at*;omega
    have c1:=b1.cell
    have f1:=b1.frozen
    have hz1:w9.heap.size≤W1.heap.size:=by omega
    have hxle:=hs1.le
    simp only [List.setIfInBounds_toArray,List.set_cons_zero,List.set_cons_succ]
    gi_wp2_with (gi_at_builtin;refine wpListIn_push_x (n0:=w9.heap.size) (B:=w9.heap.size) (r:=x) (ar:=ax) (cr:=cx) rfl rfl Tryz.underlying22 info_ints rfl rfl (hO1.alloc _) (by simp [go_sem]) (hs1.alloc _) (by omega) (by simp;omega) ?_;intro a5 c5 l5 w5 hl5 hO5 hbk hgr;have b5:=(b1.alloc (.cells #[.slice ax x.length cx] 49)).kept hgr (fun e=>by have:=(hO1.lt _ e.symm).1;omega);have c5':=b5.cell;have f5:=b5.frozen)
    have hko:=((KeepsOthers.alloc W1 (.cells #[.slice ax x.length cx] 49)).trans (KeepsOthers.of_grownBy hgr (fun j o e ho=>by
     obtain ⟨cur,hc⟩:=Ow.cells (hO1.alloc (.cells #[.slice ax x.length cx] 49)) e
     rw [hc] at ho;cases ho;rfl))).trans (KeepsOthers.setCell w5 ⟨w7.heap.size,0,none⟩ (.slice a5 l5.length c5))
    refine ⟨hko.from _,⟨hko.1,fun k hk hb=> ?_⟩,?_⟩
    ·rw [Below.heap_setCell _ _ _ _ (fun e=>hb e),hgr.block k (by simp;omega) (fun e=>by have:=(hO1.lt k e.symm).1;omega),Below.heap_alloc _ _ _ (by omega)]
    rw [←hl5.out]
    exact ⟨a5,c5,b5.set _,Ow.setOther hO5 (p:=⟨w7.heap.size,0,none⟩) (Or.inr (show w7.heap.size<w9.heap.size by omega)) (fun k hk=>by have:=(hO5.lt k hk).1;show k≠w7.heap.size;omega) _,
     ((hB1.alloc (by omega) _).grown hgr (by simp;omega) (fun k hk=>by have:=(hO1.lt k hk).1;omega)).setCell (p:=⟨w7.heap.size,0,none⟩) (by show w.heap.size≤w7.heap.size;omega) _⟩
   case done=>
    rintro D W hD ⟨a,c,bW,hO,hB⟩ hK
    obtain ⟨F,hF⟩:∃F,F=A.flatMap (pMid X C):=⟨_,rfl⟩
    rw [←hF] at bW hO hsm
    have HF:=Lib.hid hF
    clear hF
    have cW:=bW.cell
    have hsl:=hO.toSl (Nat.le_refl _)
    have hll:=hsl.le
    have hzW:w9.heap.size≤W.heap.size:=by have:=(Array.getElem?_eq_some_iff.1 hK).1;omega
    have HMx:=Lib.hid (max_any hsl hsm)
    clear hsl hO
    gi_wp2_with fail
    refine ⟨trivial,(callsIn_wide.2 HMx.out).mono ?_⟩
    rintro e w11 ⟨a11,c11,L11,rfl,hL11,hS11,hb11⟩
    have hDl:=(Array.getElem?_eq_some_iff.1 hK).1
    have hK2:w11.heap[D]? =some (.deferred (some [])):=(hb11.block _ hDl).trans hK
    gi_wp2
    refine ⟨by simp,.inl ⟨_,_,rfl,run_takeDeferred hK2,?_⟩⟩
    refine ⟨.tuple #[.slice a11 L11.length c11,.int .i64 0],by simp [results,Tryz.results34,go_sem],a11,c11,L11,0,rfl,?_,?_,?_⟩
    ·unfold Hid;rw [hR.out,hL11.out,HF.out];rfl
    ·exact (hS11.ext (M':=fun k=>k<W.heap.size) ⟨by simp,fun k hk hm=>World.putObj_heap_other (fun e=>hm (by rw [e];exact hDl)),fun _ _ h=>h⟩).anti fun k _ hm=>by have:=hB.size;show k<_;omega
    exact (hB.trans (hb11.mono hB.size)).trans (belowK_b (w:=w) (Nat.le_refl _) w11 D _ _ (by omega) hK2 rfl rfl)
  have he6b:(e6 !=0)=true:=by simp [he6]
  have hR:Hid (m.wsW extra=([],e6)):=by
   unfold Hid Mach.wsW
   rw [if_neg (by simp [HE.out]),if_neg HX.out,hXe.out,if_pos he6]
  clear he6
  gi_wp2
  exact ⟨.tuple #[.slice none 0 0,.int .i64 e6],by simp [results,Tryz.results34,go_sem],none,0,[],_,rfl,hR,Sl.nil _ _ _ (by unfold maxLen;omega),hB6⟩
 have he':(m.err !=0)=true:=by simp [he]
 have hR:Hid (m.wsW extra=([],m.err)):=by unfold Hid Mach.wsW;rw [if_pos he]
 clear he
 gi_wp2
 exact ⟨.tuple #[.slice none 0 0,.int .i64 m.err],by simp [results,Tryz.results34,go_sem],none,0,[],_,rfl,hR,Sl.nil _ _ _ (by unfold maxLen;omega),hB1⟩
end
end Go.Proofs.YtjagagpcjpcjjaaGreat
namespace Go.Proofs.YtjagagpcjpcjjaaGreat
open Go.RowKit
def TwR (m:Mach) (s:Stg) (w:World) (e:Ending) (w':World):Prop:=∃(a:Option Addr) (c:Nat) (L:List (List Int)) (e1:Int),e= .returned (.tuple #[.slice a L.length c,.int .i64 e1])∧Hid (m.twW s=(L,e1))∧Sl (fun k=>k<w.heap.size) w' a c L∧Below w.heap.size w w'
section
variable {M:Nat→Prop} {w:World} {an ao:Option Addr} {cn co:Nat} {m:Mach}
theorem twords1_any (hm:Ma M w an cn ao co m) (s:Stg) (hk:Hid (s.kind=1)):Calls Tryz.prog 12 #[maV m an cn ao co,stV s] w (TwR m s w):=by
 have hB0:=((Below.refl w.heap.size w).alloc (Nat.le_refl _) (maO m an cn ao co)).alloc (by simp) (stO s)
 have g1:(w.alloc (maO m an cn ao co)).heap.size=w.heap.size+1:=by simp
 have hx0:C4 ((w.alloc (maO m an cn ao co)).alloc (stO s)) w.heap.size an cn ao co m:=(c4_new w).below (B:=w.heap.size+1) ((Below.refl _ _).alloc (by rw [g1];exact Nat.le_refl _) _) (by omega)
 have hs0:S5 ((w.alloc (maO m an cn ao co)).alloc (stO s)) (w.heap.size+1) s:=by
  have h:=s5_new (w.alloc (maO m an cn ao co)) s
  rw [g1] at h
  exact h
 have hz0:w.heap.size+2≤((w.alloc (maO m an cn ao co)).alloc (stO s)).heap.size:=by simp
 have l1:=hm.next.le
 have l2:=hm.out.le
 have HM:=Lib.hid (hm.below hB0)
 clear hm g1
 go_enter Tryz.func12,Tryz.ntmps12
 go_upto_region 1 with (fail)
 generalize (w.alloc (maO m an cn ao co)).alloc (stO s)=w0 at*
 have HS:Hid (∀w',Below w0.heap.size w0 w'→C4 w' w.heap.size an cn ao co m∧S5 w' (w.heap.size+1) s∧Ma M w' an cn ao co m∧Below w.heap.size w w'∧w.heap.size+2≤w'.heap.size):=fun w' h=>
  ⟨hx0.below h (by omega),hs0.below h (by omega),HM.out.below h,hB0.trans (h.mono (by omega)),by have:=h.size;omega⟩
 have hb0:=Below.refl w0.heap.size w0
 clear hx0 hs0 hB0 hz0
 have HV:=Lib.hid (valid_any (HS.out _ hb0).2.2.1)
 have hc:=(HS.out _ hb0).1
 obtain ⟨d0,d1,d2,d3⟩:=hc
 go_wp2_with fail
 refine (HV.out).mono ?_
 rintro e w1 ⟨rfl,hb1⟩
 clear d0 d1 d2 d3 HV hb0
 by_cases he:m.err=0
 ·have he':(m.err !=0)=false:=by simp [he]
  have HE:=Lib.hid he
  have ok:Hid m.Ok:=Mach.ok_of_err m HE.out
  clear he
  have HSv:=Lib.hid (svalid_any (w:=w1) s)
  obtain ⟨s0,s1,s2,s3,s4⟩:=(HS.out _ hb1).2.1
  go_wp2_with fail
  refine (HSv.out).mono ?_
  rintro e w2 ⟨rfl,hb2⟩
  have hb2:=hb1.trans (hb2.mono hb1.size)
  clear s0 s1 s2 s3 s4 HSv hb1
  by_cases hse:s.err=0
  ·have hse':(s.err !=0)=false:=by simp [hse]
   have hk:=hk.out
   have HSE:=Lib.hid hse
   clear hse
   have HS2:=HS.out _ hb2
   obtain ⟨d0,d1,d2,d3⟩:=HS2.1
   obtain ⟨s0,s1,s2,s3,s4⟩:=HS2.2.1
   have HR:Hid (∀L e1,m.wsW s.extra=(L,e1)→m.twW s=(L,e1)):=fun L e1 h=>by unfold Mach.twW;rw [if_neg (by simp [HE.out]),if_neg (by simp [HSE.out]),if_pos hk,h]
   have HC:=Lib.hid (wsuite_any HS2.2.2.1 s.extra)
   have hzz:=HS2.2.2.2.2
   have hBz:=HS2.2.2.2.1
   clear HS2
   rw [hk] at s0
   clear hk
   go_wp2_with fail
   refine (HC.out).mono ?_
   rintro e w3 ⟨a3,c3,L,e1,rfl,hL,hS3,hb3⟩
   have hBf:=hBz.trans (hb3.mono (by omega))
   have hSf:=hS3.anti (M':=fun k=>k<w.heap.size) fun k _ hm=>by show k<_;omega
   have hR:=Lib.hid (HR.out _ _ hL.out)
   clear HC d0 d1 d2 d3 s0 s1 s2 s3 s4 hb3
   go_wp2
   go_ret2
   exact ⟨a3,c3,L,e1,rfl,hR,hSf,hBf⟩
  have hse':(s.err !=0)=true:=by simp [hse]
  have HR:Hid (m.twW s=([],s.err)):=by unfold Hid Mach.twW;rw [if_neg (by simp [HE.out]),if_pos hse]
  have hBf:=(HS.out _ hb2).2.2.2.1
  clear hse
  go_wp2
  go_ret2
  exact ⟨none,0,[],s.err,rfl,HR,Sl.nil _ _ _ (by unfold maxLen;omega),hBf⟩
 have he':(m.err !=0)=true:=by simp [he]
 have HR:Hid (m.twW s=([],m.err)):=by unfold Hid Mach.twW;rw [if_pos he]
 have hBf:=(HS.out _ hb1).2.2.2.1
 clear he
 go_wp2
 go_ret2
 exact ⟨none,0,[],m.err,rfl,HR,Sl.nil _ _ _ (by unfold maxLen;omega),hBf⟩
end
end Go.Proofs.YtjagagpcjpcjjaaGreat
