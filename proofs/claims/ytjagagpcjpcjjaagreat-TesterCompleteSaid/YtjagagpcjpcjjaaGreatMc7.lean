/- Several texts, one behind the other. Conditions: as each of them says. -/
import Derived.Test.YtjagagpcjpcjjaaGreatMc4
import Derived.Test.YtjagagpcjpcjjaaGreatMc2
import Derived.Test.YtjagagpcjpcjjaaGreatMc1
import Derived.Laws.OwnMore
import Derived.Laws.MakeOwn
set_option maxRecDepth 100000
set_option maxHeartbeats 32000000
namespace Go.Proofs.YtjagagpcjpcjjaaGreat
open Go.RowKit
def Ow {α:Type} [GR α] (B:Nat) (M:Nat→Prop) (w:World) (T:TypeId) (v:Value) (l:List α):Prop:=
 ∃xs,w.ownsRow B T (GR.sz α) v l.length xs∧∀j x,l[j]? =some x→GR.rep M w ((xs.drop (j*GR.sz α)).take (GR.sz α)) x
section
variable {α:Type} [GR α] {B:Nat} {M M':Nat→Prop} {w w':World} {T:TypeId} {v v':Value} {l:List α} {a:Option Addr} {c:Nat}
theorem Ow.nil:Ow B M w T (.slice none 0 0) ([]:List α):=⟨[],World.ownsRow_nil _ _ _ _,fun j x h=>by simp at h⟩
theorem Ow.shape (h:Ow B M w T v l):∃a c,v= .slice a l.length c∧l.length≤c∧c≤maxLen:=by
 obtain ⟨xs,⟨_,h2⟩,_⟩:=h
 rcases h2 with ⟨rfl,h0⟩|⟨g,cap,cur,rfl,_,_,h3,h4,_⟩
 ·exact ⟨none,0,by rw [h0],by omega,by unfold maxLen;omega⟩
 exact ⟨_,_,rfl,h3,h4⟩
theorem Ow.le (h:Ow B M w T v l):l.length≤9223372036854775807:=by
 obtain ⟨a,c,_,h1,h2⟩:=h.shape
 have:=Nat.le_trans h1 h2
 unfold maxLen at this
 exact this
theorem Ow.lt (h:Ow B M w T v l):∀k,v.ownBlock=some k→B≤k∧k<w.heap.size:=by
 obtain ⟨xs,h1,_⟩:=h
 exact h1.lt
theorem ownsRow_same {n size:Nat} {xs:List Value} (h:w.ownsRow B T size v n xs) (hb:∀k,v.ownBlock=some k→w'.heap[k]? =w.heap[k]?):w'.ownsRow B T size v n xs:=by
 refine ⟨h.1,?_⟩
 rcases h.2 with h2|⟨g,cap,cur,rfl,h3,h4,h5⟩
 ·exact .inl h2
 exact .inr ⟨g,cap,cur,rfl,h3,by rw [hb g rfl];exact h4,h5⟩
theorem Ow.ext (h:Ow B M w T v l) (e:Ext M M' w w') (hb:∀k,v.ownBlock=some k→w'.heap[k]? =w.heap[k]?):Ow B M' w' T v l:=by
 obtain ⟨xs,h1,h2⟩:=h
 exact ⟨xs,ownsRow_same h1 hb,fun j x hj=>GR.ext e (h2 j x hj)⟩
theorem Ow.below (h:Ow B M w T v l) (hb:Below w.heap.size w w'):Ow B M w' T v l:=
 h.ext (Ext.of_below hb) fun k hk=>hb.block k (h.lt k hk).2
theorem Ow.alloc (h:Ow B M w T v l) (o:Obj):Ow B M (w.alloc o) T v l:=
 h.ext (Ext.alloc _ _ _) fun k hk=>Below.heap_alloc _ _ _ (h.lt k hk).2
theorem Ow.drew (h:Ow B M w T v l):Ow B M w.drew T v l:=h.ext (Ext.drew _ _) fun _ _=>rfl
theorem Ow.drewN (h:Ow B M w T v l) (n:Nat):Ow B M (w.drewN n) T v l:=h.below (below_drewN _ _ _)
theorem Ow.setOther (h:Ow B M w T v l) {p:Addr} (hp:M p.block) (hne:∀k,v.ownBlock=some k→k≠p.block) (u:Value):Ow B M (w.setCell p u) T v l:=
 h.ext (Ext.setCell _ hp u) fun k hk=>Below.heap_setCell _ _ _ _ (hne k hk)
theorem Ow.push {xs news:List Value} {x:α} (hr:w.ownsRow B T (GR.sz α) v l.length xs) (hx:∀j x,l[j]? =some x→GR.rep M w ((xs.drop (j*GR.sz α)).take (GR.sz α)) x)
    (e:Ext M M' w w') (ho:w'.ownsRow B T (GR.sz α) v' (l.length+1) (xs++news)) (hn:GR.rep M' w' news x):Ow B M' w' T v' (l++[x]):=by
 have hl:xs.length=l.length*GR.sz α:=hr.1
 refine ⟨xs++news,by simpa using ho,fun j y hj=> ?_⟩
 by_cases hlt:j<l.length
 ·rw [List.getElem?_append_left hlt] at hj
  have:=GR.ext e (hx j y hj)
  have h1:(j+1)*GR.sz α≤xs.length:=by rw [hl];exact Nat.mul_le_mul_right _ hlt
  rw [Nat.add_mul,Nat.one_mul] at h1
  rw [List.drop_append_of_le_length (by omega),List.take_append_of_le_length (by simp;omega)]
  exact this
 have hj2 : j = l.length := by
  by_cases e2:j<(l++[x]).length
  ·simp at e2;omega
  rw [List.getElem?_eq_none (by omega)] at hj;simp at hj
 subst hj2
 rw [List.getElem?_append_right (Nat.le_refl _)] at hj
 simp at hj
 subst hj
 rw [←hl,List.drop_append_of_le_length (Nat.le_refl _),List.drop_length,List.nil_append,List.take_of_length_le (by rw [GR.len hn];exact Nat.le_refl _)]
 exact hn
theorem Ow.toSl (h:Ow B M w T (.slice a l.length c) l) (hM:∀k,(Value.slice a l.length c).ownBlock=some k→¬M k):Sl M w a c l:=by
 obtain ⟨xs,h1,h2⟩:=h
 rcases h1.2 with ⟨hv,h0⟩|⟨g,cap,cur,hv,hb,hg,h3,h4,h5,h6⟩
 ·obtain rfl:=List.length_eq_zero_iff.1 h0
  simp only [Value.slice.injEq] at hv
  obtain ⟨rfl,_,rfl⟩:=hv
  exact ⟨Nat.le_refl _,by unfold maxLen;omega,fun j x h=>by simp at h⟩
 simp only [Value.slice.injEq,true_and] at hv
 obtain ⟨rfl,rfl⟩:=hv
 refine ⟨h3,h4,fun j x hj=>⟨g,0,_,rfl,(Array.getElem?_eq_some_iff.1 hg).1,hM g rfl,h2 j x hj,fun i u hi=> ?_⟩⟩
 have hjl:j<l.length:=by
  by_cases e:j<l.length
  ·exact e
  rw [List.getElem?_eq_none (by omega)] at hj;simp at hj
 have hi2:i<GR.sz α:=by
  by_cases e:i<GR.sz α
  ·exact e
  rw [List.getElem?_eq_none (by simp;omega)] at hi;simp at hi
 have hlt:j*GR.sz α+i<l.length*GR.sz α:=by
  have:=Nat.mul_le_mul_right (GR.sz α) hjl
  rw [Nat.succ_mul] at this
  omega
 rw [Nat.zero_add,h1.cellAt _ hlt]
 rw [List.getElem?_take,if_pos hi2,List.getElem?_drop] at hi
 exact hi
theorem Ow.ownsRow (h:Ow B M w T v l):∃xs,w.ownsRow B T (GR.sz α) v l.length xs∧∀j x,l[j]? =some x→GR.rep M w ((xs.drop (j*GR.sz α)).take (GR.sz α)) x:=h
end
section
variable {B:Nat} {M M':Nat→Prop} {w w':World} {T:TypeId} {v v':Value} {a:Option Addr} {c:Nat}
theorem take_drop_one {xs:List Value} {j:Nat} {u:Value} (h:(xs.drop (j*1)).take 1=[u]):xs[j]? =some u:=by
 have h1:((xs.drop (j*1)).take 1)[0]? =some u:=by rw [h];rfl
 simpa [List.getElem?_take,List.getElem?_drop] using h1
theorem ow_some {α:Type} [GR α] {l:List α} (h:Ow B M w T (.slice a l.length c) l) (h0:0<l.length):∃g,a=some ⟨g,0,none⟩∧B≤g∧g<w.heap.size:=by
 obtain ⟨xs,h1,_⟩:=h
 rcases h1.2 with ⟨_,h0'⟩|⟨g,cap,cur,hv,hb,hg,_⟩
 ·omega
 simp only [Value.slice.injEq,true_and] at hv
 exact ⟨g,hv.1,hb,(Array.getElem?_eq_some_iff.1 hg).1⟩
theorem Ow.at_int {l:List Int} (h:Ow B M w T (.slice a l.length c) l) {j:Nat} (hj:j<l.length):
    ∃g x,a=some ⟨g,0,none⟩∧w.cell? ⟨g,j,none⟩=some (.int .i64 x)∧w.frozen? ⟨g,j,none⟩=false∧Hid (l[j]? =some x)∧Hid (i64 x):=by
 obtain ⟨g,rfl,_,_⟩:=ow_some h (by omega)
 obtain ⟨xs,h1,h2⟩:=h
 obtain ⟨h3,h4⟩:=h2 j l[j] (by simp [hj])
 refine ⟨g,l[j],rfl,?_,h1.frozenAt j,by unfold Hid;simp [hj],h4⟩
 rw [h1.cellAt j (by simpa [GR.sz] using hj)]
 exact take_drop_one h3
theorem Ow.at_bool {l:List Bool} (h:Ow B M w T (.slice a l.length c) l) {j:Nat} (hj:j<l.length):
    ∃g x,a=some ⟨g,0,none⟩∧w.cell? ⟨g,j,none⟩=some (.bool x)∧w.frozen? ⟨g,j,none⟩=false∧Hid (l[j]? =some x):=by
 obtain ⟨g,rfl,_,_⟩:=ow_some h (by omega)
 obtain ⟨xs,h1,h2⟩:=h
 have h3:=h2 j l[j] (by simp [hj])
 refine ⟨g,l[j],rfl,?_,h1.frozenAt j,by unfold Hid;simp [hj]⟩
 rw [h1.cellAt j (by simpa [GR.sz] using hj)]
 exact take_drop_one h3
theorem take_drop_set {xs:List Value} {i j:Nat} {u:Value}:((xs.set i u).drop (j*1)).take 1=if i=j∧j<xs.length then [u] else (xs.drop (j*1)).take 1:=by
 apply List.ext_getElem?
 intro k
 rcases k with _|k
 ·by_cases e:i=j
  ·subst e
   by_cases hl:i<xs.length
   ·simp [List.getElem?_drop,hl]
   simp [List.getElem?_drop,hl]
  simp [List.getElem?_drop,e]
 rw [List.getElem?_take,if_neg (by omega)]
 split
 ·simp
 rw [List.getElem?_take,if_neg (by omega)]
theorem Ow.set {α:Type} [GR α] (hs1:GR.sz α=1) {l:List α} {g:Nat} (h:Ow B M w T (.slice (some ⟨g,0,none⟩) l.length c) l) (hM:M g) {j:Nat} {u:Value} {x:α}
    (hx:GR.rep M (w.setCell ⟨g,j,none⟩ u) [u] x):Ow B M (w.setCell ⟨g,j,none⟩ u) T (.slice (some ⟨g,0,none⟩) l.length c) (l.set j x):=by
 obtain ⟨xs,h1,h2⟩:=h
 have hl:xs.length=l.length:=by have:=h1.1;rw [hs1] at this;omega
 refine ⟨xs.set j u,by simpa using (h1.stored j u).1,fun i y hi=> ?_⟩
 rw [hs1] at h2 ⊢
 rw [take_drop_set]
 by_cases e:j=i
 ·subst e
  by_cases hl2:j<l.length
  ·rw [if_pos ⟨rfl,by omega⟩]
   simp [hl2] at hi
   subst hi
   exact hx
  rw [List.getElem?_eq_none (by simp;omega)] at hi;simp at hi
 rw [if_neg (by omega)]
 rw [List.getElem?_set_ne e] at hi
 exact GR.ext (Ext.setCell w (p:=⟨g,j,none⟩) hM u) (h2 i y hi)
theorem Ow.anyM {l:List Int} (h:Ow B M w T v l):Ow B M' w T v l:=by
 obtain ⟨xs,h1,h2⟩:=h
 exact ⟨xs,h1,fun j x hj=>h2 j x hj⟩
theorem Ow.fresh {l:List Int} (h:Ow B M w T (.slice a l.length c) l) {n:Nat} (hB:n≤B):Sl (fun k=>k<n) w a c l:=
 (h.anyM (M':=fun k=>k<n)).toSl fun k hk hlt=>by have:=(h.lt k hk).1;omega
theorem Ow.at_int' {l:List Int} {n:Nat} (hn:n=l.length) (h:Ow B M w T (.slice a n c) l) {j:Nat} (hj:j<l.length):
    ∃g x,a=some ⟨g,0,none⟩∧w.cell? ⟨g,j,none⟩=some (.int .i64 x)∧w.frozen? ⟨g,j,none⟩=false∧Hid (l[j]? =some x)∧Hid (i64 x):=by
 subst hn;exact h.at_int hj
theorem Ow.at_bool' {l:List Bool} {n:Nat} (hn:n=l.length) (h:Ow B M w T (.slice a n c) l) {j:Nat} (hj:j<l.length):
    ∃g x,a=some ⟨g,0,none⟩∧w.cell? ⟨g,j,none⟩=some (.bool x)∧w.frozen? ⟨g,j,none⟩=false∧Hid (l[j]? =some x):=by
 subst hn;exact h.at_bool hj
theorem Ow.set_int {l:List Int} {g n:Nat} (h:Ow B M w T (.slice (some ⟨g,0,none⟩) n c) l) (hn:n=l.length) (hM:M g) {x:Int} (j:Nat) (hx:i64 x):
    Ow B M (w.setCell ⟨g,j,none⟩ (.int .i64 x)) T (.slice (some ⟨g,0,none⟩) n c) (l.set j x):=by
 subst hn;exact Ow.set rfl h hM (u:= .int .i64 x) ⟨rfl,hx⟩
theorem Ow.set_bool {l:List Bool} {g n:Nat} (h:Ow B M w T (.slice (some ⟨g,0,none⟩) n c) l) (hn:n=l.length) (hM:M g) (x:Bool) (j:Nat):
    Ow B M (w.setCell ⟨g,j,none⟩ (.bool x)) T (.slice (some ⟨g,0,none⟩) n c) (l.set j x):=by
 subst hn;exact Ow.set rfl h hM (u:= .bool x) rfl
theorem Ow.upto {l:List Int} {B':Nat} (h:Ow B M w T v l) (hb:Below B' w w') (hk:∀k,v.ownBlock=some k→k<B'):Ow B M w' T v l:=by
 obtain ⟨xs,h1,h2⟩:=h
 exact ⟨xs,ownsRow_same h1 fun k hk'=>hb.block k (hk k hk'),fun j x hj=>h2 j x hj⟩
theorem Ow.uptob {l:List Bool} {B':Nat} (h:Ow B M w T v l) (hb:Below B' w w') (hk:∀k,v.ownBlock=some k→k<B'):Ow B M w' T v l:=by
 obtain ⟨xs,h1,h2⟩:=h
 exact ⟨xs,ownsRow_same h1 fun k hk'=>hb.block k (hk k hk'),fun j x hj=>h2 j x hj⟩
theorem Ow.setOtherI {l:List Int} (h:Ow B M w T v l) {p:Addr} (hne:∀k,v.ownBlock=some k→k≠p.block) (u:Value):Ow B M (w.setCell p u) T v l:=by
 obtain ⟨xs,h1,h2⟩:=h
 exact ⟨xs,ownsRow_same h1 fun k hk'=>Below.heap_setCell _ _ _ _ (hne k hk'),fun j x hj=>h2 j x hj⟩
theorem Ow.zero {α:Type} [GR α] (hB:B≤w.heap.size):Ow B M (w.alloc (.cells #[] T)) T (.slice (some ⟨w.heap.size,0,none⟩) 0 0) ([]:List α):=
 ⟨[],World.ownsRow_lit w #[] 0 hB (by unfold maxLen;omega) (by simp),fun j y hj=>by simp at hj⟩
theorem Ow.one {x:Int} (hx:i64 x) (hB:B≤w.heap.size):Ow B M (w.alloc (.cells #[.int .i64 x] T)) T (.slice (some ⟨w.heap.size,0,none⟩) 1 1) [x]:=by
 refine ⟨[.int .i64 x],?_,fun j y hj=> ?_⟩
 ·exact World.ownsRow_lit w #[.int .i64 x] 1 hB (by unfold maxLen;omega) (by simp [GR.sz])
 match j,hj with
 |0,hj=>simp at hj;subst hj;exact ⟨rfl,hx⟩
theorem Sl.lt {α:Type} [GR α] {l:List α} {b off:Nat} (h:Sl M w (some ⟨b,off,none⟩) c l) {j:Nat} (hj:j<l.length):b<w.heap.size:=by
 obtain ⟨b',off',cs,ha,hb,_⟩:=h.2.2 j l[j] (by simp [hj])
 simp at ha
 rw [ha.1];exact hb
theorem rep_int {M:Nat→Prop} {w:World} {x:Int} (h:i64 x):GR.rep M w [.int .i64 x] x:=⟨rfl,h⟩
theorem rep_bool {M:Nat→Prop} {w:World} {x:Bool}:GR.rep M w [.bool x] x:=rfl
theorem rep_slice {α:Type} [GR α] {M:Nat→Prop} {w:World} {a:Option Addr} {c:Nat} {l:List α} (h:Sl M w a c l):GR.rep M w [.slice a l.length c] l:=⟨a,c,rfl,h⟩
end
structure Tr where
 inn:List Int
 out:List Int
 deriving DecidableEq
instance:GR Tr where
 sz:=2
 rep M w cs t:=∃a c a' c',cs=[.slice a t.inn.length c,.slice a' t.out.length c']∧Sl M w a c t.inn∧Sl M w a' c' t.out
 len h:=by obtain ⟨a,c,a',c',h,_⟩:=h;rw [h];rfl
 ext e h:=by obtain ⟨a,c,a',c',h,h1,h2⟩:=h;exact ⟨a,c,a',c',h,h1.ext e,h2.ext e⟩
structure Ob where
 inputs:Int
 traces:List Tr
 deriving DecidableEq
structure Hy where
 m:Mach
 acc:List (List Int)
 deriving DecidableEq
structure Sp where
 pre:List Int
 sym:Int
 suf:List Int
 deriving DecidableEq
theorem Sl.at_tr {M:Nat→Prop} {w:World} {a:Option Addr} {c:Nat} {l:List Tr} (h:Sl M w a c l) {j:Nat} (hj:j<l.length):
    ∃b off a1 c1 a2 c2 t,a=some ⟨b,off,none⟩∧w.cell? ⟨b,off+j*2,none⟩=some (.slice a1 t.inn.length c1)∧w.cell? ⟨b,off+j*2+1,none⟩=some (.slice a2 t.out.length c2)∧Hid (l[j]? =some t)∧
     Sl M w a1 c1 t.inn∧Sl M w a2 c2 t.out:=by
 obtain ⟨b,off,cs,ha,_,_,⟨a1,c1,a2,c2,rfl,h1,h2⟩,hc⟩:=h.2.2 j l[j] (by simp [hj])
 refine ⟨b,off,a1,c1,a2,c2,l[j],ha,by simpa [GR.sz] using hc 0 _ rfl,by simpa [GR.sz] using hc 1 _ rfl,by unfold Hid;simp [hj],h1,h2⟩
structure Os (M:Nat→Prop) (w:World) (a:Option Addr) (c:Nat) (o:Ob):Prop where
 inputs:i64 o.inputs
 traces:Sl M w a c o.traces
abbrev obV (o:Ob) (a:Option Addr) (c:Nat):Value:= .agg #[.int .i64 o.inputs,.slice a o.traces.length c]
structure Hp (M:Nat→Prop) (w:World) (an:Option Addr) (cn:Nat) (ao:Option Addr) (co:Nat) (ac:Option Addr) (cc:Nat) (h:Hy):Prop where
 m:Ma M w an cn ao co h.m
 acc:Sl M w ac cc h.acc
abbrev hyV (h:Hy) (an:Option Addr) (cn:Nat) (ao:Option Addr) (co:Nat) (ac:Option Addr) (cc:Nat):Value:=
 .agg #[.int .i64 h.m.inputs,.int .i64 h.m.start,.slice an h.m.next.length cn,.slice ao h.m.out.length co,.slice ac h.acc.length cc]
abbrev trV (t:Tr) (a:Option Addr) (c:Nat) (a':Option Addr) (c':Nat):Value:= .agg #[.slice a t.inn.length c,.slice a' t.out.length c']
section
variable {M M':Nat→Prop} {w w':World} {a an ao ac:Option Addr} {c cn co cc:Nat} {o:Ob} {h:Hy}
theorem Os.ext (e:Ext M M' w w') (h:Os M w a c o):Os M' w' a c o:=⟨h.inputs,h.traces.ext e⟩
theorem Os.below (h:Os M w a c o) (hb:Below w.heap.size w w'):Os M w' a c o:=h.ext (Ext.of_below hb)
theorem Hp.ext (e:Ext M M' w w') (k:Hp M w an cn ao co ac cc h):Hp M' w' an cn ao co ac cc h:=⟨k.m.ext e,k.acc.ext e⟩
theorem Hp.below (k:Hp M w an cn ao co ac cc h) (hb:Below w.heap.size w w'):Hp M w' an cn ao co ac cc h:=k.ext (Ext.of_below hb)
end
abbrev obO (o:Ob) (a:Option Addr) (c:Nat):Obj:= .cells #[.int .i64 o.inputs,.slice a o.traces.length c] 43
abbrev O2 (w:World) (b:Nat) (a:Option Addr) (c:Nat) (o:Ob):Prop:=w.cell? ⟨b,0,none⟩=some (.int .i64 o.inputs)∧w.cell? ⟨b,1,none⟩=some (.slice a o.traces.length c)
abbrev hyO (h:Hy) (an:Option Addr) (cn:Nat) (ao:Option Addr) (co:Nat) (ac:Option Addr) (cc:Nat):Obj:= .cells #[.int .i64 h.m.inputs,.int .i64 h.m.start,.slice an h.m.next.length cn,.slice ao h.m.out.length co,.slice ac h.acc.length cc] 40
abbrev H5 (w:World) (b:Nat) (an:Option Addr) (cn:Nat) (ao:Option Addr) (co:Nat) (ac:Option Addr) (cc:Nat) (h:Hy):Prop:=C4 w b an cn ao co h.m∧w.cell? ⟨b,4,none⟩=some (.slice ac h.acc.length cc)
abbrev trO (t:Tr) (a:Option Addr) (c:Nat) (a':Option Addr) (c':Nat):Obj:= .cells #[.slice a t.inn.length c,.slice a' t.out.length c'] 73
abbrev T2 (w:World) (b:Nat) (a:Option Addr) (c:Nat) (a':Option Addr) (c':Nat) (t:Tr):Prop:=w.cell? ⟨b,0,none⟩=some (.slice a t.inn.length c)∧w.cell? ⟨b,1,none⟩=some (.slice a' t.out.length c')
abbrev S3 (w:World) (b:Nat) (a:Option Addr) (c:Nat) (a':Option Addr) (c':Nat) (s:Sp):Prop:=w.cell? ⟨b,0,none⟩=some (.slice a s.pre.length c)∧w.cell? ⟨b,1,none⟩=some (.int .i64 s.sym)∧w.cell? ⟨b,2,none⟩=some (.slice a' s.suf.length c')
section
variable {B b:Nat} {w w':World} {an ao ac a a':Option Addr} {cn co cc c c':Nat} {h:Hy} {o:Ob} {t:Tr} {s:Sp}
theorem o2_new (w:World):O2 (w.alloc (obO o a c)) w.heap.size a c o:=by refine ⟨?_,?_⟩<;>simp
theorem O2.below (h:O2 w b a c o) (hb:Below B w w') (hlt:b<B):O2 w' b a c o:=⟨(hb.cell (p:=⟨b,0,none⟩) hlt).trans h.1,(hb.cell (p:=⟨b,1,none⟩) hlt).trans h.2⟩
theorem h5_new (w:World):H5 (w.alloc (hyO h an cn ao co ac cc)) w.heap.size an cn ao co ac cc h:=by refine ⟨⟨?_,?_,?_,?_⟩,?_⟩<;>simp
theorem H5.below (k:H5 w b an cn ao co ac cc h) (hb:Below B w w') (hlt:b<B):H5 w' b an cn ao co ac cc h:=⟨k.1.below hb hlt,(hb.cell (p:=⟨b,4,none⟩) hlt).trans k.2⟩
theorem t2_new (w:World):T2 (w.alloc (trO t a c a' c')) w.heap.size a c a' c' t:=by refine ⟨?_,?_⟩<;>simp
theorem T2.below (h:T2 w b a c a' c' t) (hb:Below B w w') (hlt:b<B):T2 w' b a c a' c' t:=⟨(hb.cell (p:=⟨b,0,none⟩) hlt).trans h.1,(hb.cell (p:=⟨b,1,none⟩) hlt).trans h.2⟩
theorem S3.below (h:S3 w b a c a' c' s) (hb:Below B w w') (hlt:b<B):S3 w' b a c a' c' s:=⟨(hb.cell (p:=⟨b,0,none⟩) hlt).trans h.1,(hb.cell (p:=⟨b,1,none⟩) hlt).trans h.2.1,(hb.cell (p:=⟨b,2,none⟩) hlt).trans h.2.2⟩
end
def dA (a:Option Addr) (c i:Nat):Option Addr:=if c=i then a else a.map (·.add i)
theorem Sl.drop {M:Nat→Prop} {w:World} {a:Option Addr} {c:Nat} {l:List Int} (h:Sl M w a c l) {i:Nat} (hi:i≤l.length):Sl M w (dA a c i) (c-i) (l.drop i):=by
 refine ⟨by have:=h.1;rw [List.length_drop];omega,by have:=h.2.1;omega,fun j x hj=> ?_⟩
 have hj2:l[i+j]? =some x:=by rw [List.getElem?_drop] at hj;exact hj
 have hjl:i+j<l.length:=by
  by_cases e:i+j<l.length
  ·exact e
  rw [List.getElem?_eq_none (by omega)] at hj2;simp at hj2
 obtain ⟨b,off,cs,ha,hb,hm,hr,hc⟩:=h.2.2 (i+j) x hj2
 refine ⟨b,off+i,cs,?_,hb,hm,hr,fun k u hk=> ?_⟩
 ·have:=h.1
  unfold dA
  rw [if_neg (by omega),ha]
  simp only [Option.map_some,Addr.add]
  split
  ·rename_i h0;subst h0;rfl
  rfl
 have:=hc k u hk
 have e:off+i+j*GR.sz Int+k=off+(i+j)*GR.sz Int+k:=by simp only [GR.sz];omega
 rw [e];exact this
theorem Sl.taken {α:Type} [GR α] {M:Nat→Prop} {w:World} {a:Option Addr} {c:Nat} {l:List α} (h:Sl M w a c l) {n:Nat} (hn:n≤l.length):Sl M w a c (l.take n):=by
 refine ⟨by have:=h.1;rw [List.length_take];omega,h.2.1,fun j x hj=>h.2.2 j x ?_⟩
 rw [List.getElem?_take] at hj
 split at hj
 ·exact hj
 simp at hj
theorem info_int:(Tryz.prog.info? 3).map (fun i=>(i.zero,i.size,i.bytes))=some (some (.int .i64 0),1,8):=by kernel_rfl
theorem info_bool:(Tryz.prog.info? 4).map (fun i=>(i.zero,i.size,i.bytes))=some (some (.bool false),1,1):=by kernel_rfl
theorem info_ints:(Tryz.prog.info? 49).map (fun i=>(i.zero,i.size,i.bytes))=some (some (.slice none 0 0),1,24):=by kernel_rfl
section
variable {P:Program} {α:Type} [GR α] {w:World} {ops:Array Oper} {rest:List Oper} {o:Oper} {a:Act} {Q:Exit→Act→World→Prop}
theorem wpList_mk (hg:o.guard=none) (x y:Operand) (t:TypeId) (hop:o.op= .makeSlice t x y) (e:TypeId) (z:Value) (bytes:Nat) (ht:P.underlying t=some (.slice e))
    (hi:(P.info? e).map (fun i=>(i.zero,i.size,i.bytes))=some (some z,1,bytes)) (hzc:z.cells= #[z]) (B:Nat) (M:Nat→Prop) (d:α) (hs1:GR.sz α=1) (hz:∀w,GR.rep M w [z] d)
    (n:Nat) (hx:a.eval x= .int .i64 n) (hy:a.eval y= .int .i64 n) (hn:bytes*n≤281474976710656) (hn2:n≤maxLen) (hB:B≤w.heap.size)
    (h:∀(g c:Nat) (l:List α) (w':World),Hid (l=List.replicate n d)→Ow B M w' e (.slice (some ⟨g,0,none⟩) l.length c) l→w.heap.size≤g→w.heap.size<w'.heap.size→Below w.heap.size w w'→
     wpList P ops Q rest (a.put o.dst (.slice (some ⟨g,0,none⟩) l.length c)) w'):wpList P ops Q (o::rest) a w:=by
 refine wpList_plain hg fun K hK=> ?_
 obtain ⟨i,hi1,hi2,hi3,hi4⟩:=info_parts hi
 have hn':(bytes:Int)*(n:Int)≤281474976710656:=by
  have h1:((bytes*n:Nat):Int)≤281474976710656:=by omega
  rwa [Int.natCast_mul] at h1
 have hn3:(n:Int)≤9223372036854775807:=by
  have h1:=hn2
  unfold maxLen at h1
  omega
 have hr:=run_make (P:=P) w t e i z ht hi1 hi2 .i64 .i64 n n (by omega) (Int.le_refl _) (by rw [hi4];exact hn') hn3
 rw [hzc,hi3] at hr
 simp only [Int.toNat_natCast,Nat.mul_one] at hr
 unfold Oper.wp
 simp only [execOp,hop,hx,hy,hr,Sem.run_bind,Result.andThen_ok,Sem.run_pure,Oper.upon]
 have hown:(w.alloc (.cells (madeCells #[z] n) e)).ownsRow B e 1 (.slice (some ⟨w.heap.size,0,none⟩) n n) n (madeCells #[z] n).toList:=World.ownsRow_lit w _ n hB hn2 (by rw [size_madeCells];omega)
 have key:=h w.heap.size n (List.replicate n d) (w.alloc (.cells (madeCells #[z] n) e)) rfl ?_ (Nat.le_refl _) (by simp) ((Below.refl _ _).alloc (Nat.le_refl _) _)
 ·simp only [List.length_replicate] at key
  exact hK _ _ key
 refine ⟨(madeCells #[z] n).toList,?_,fun j u hj=> ?_⟩
 ·rw [hs1];simpa using hown
 rw [hs1,toList_madeCells_one]
 have hjn:j<n:=by
  by_cases e:j<n
  ·exact e
  rw [List.getElem?_eq_none (by simp;omega)] at hj;simp at hj
 simp [hjn] at hj
 subst hj
 have:((List.replicate n z).drop (j*1)).take 1=[z]:=by
  rw [Nat.mul_one,List.drop_replicate,List.take_replicate]
  have:min 1 (n-j)=1:=by omega
  rw [this];rfl
 rw [this]
 exact hz _
theorem append_block {base:Nat} {t ty e:TypeId} {i:TypeInfo} {z:Value} {size bytes:Nat} (ht:P.underlying t=some (.slice e)) (hi:P.info? e=some i) (hz:i.zero=some z)
    (hsize:i.size=size) (hby:i.bytes=bytes) {v:Value} {n:Nat} {xs:List Value} (hown:w.ownsRow base e size v n xs)
    {a:Addr} {m c:Nat} {news:List Value} (hl:news.length=m*size) (hnews:∀j u,news[j]? =some u→w.cell? (a.add j)=some u) (h1:∀u∈news,u.oneCell'=true)
    (h63:n+m≤maxLen) (hbytes:(n+m)*bytes≤140737488355328) {v':Value} {w':World} (hr:(Builtin.append_ #[t,t] ty #[v,.slice (some a) m c]).run P w= .ok v' w'):
    v'.ownBlock=v.ownBlock∨v'.ownBlock=some w.heap.size:=by
 subst hsize
 subst hby
 have hsmall:n+m≤9223372036854775807:=by simp only [maxLen] at h63;omega
 rcases hown.2 with ⟨rfl,rfl⟩|⟨g,cap,cur,rfl,hbg,hg,hnc,hcm,hcs,htake⟩
 ·by_cases hm:m=0
  ·subst hm
   have hn:news=[]:=List.eq_nil_of_length_eq_zero (by simpa using hl)
   subst hn
   left
   have:(Builtin.append_ #[t,t] ty #[.slice none 0 0,.slice (some a) 0 c]).run P w= .ok (.slice none 0 0) w:=by
    simp [Builtin.append_,run_underlying ht,sizeOf,typeInfo,hi,Builtin.lenOf,Builtin.firstCells,loadCells,loadCellsFrom]
   rw [this] at hr
   simp only [Result.ok.injEq] at hr
   rw [←hr.1]
  have hr2:=run_append_nil (P:=P) w t ty e i z ht hi hz a m c news hl hnews (by omega) (by omega) (by have hb:=hbytes;simp only [Nat.zero_add] at hb;omega)
  rw [hr2] at hr
  simp only [Result.ok.injEq] at hr
  right
  rw [←hr.1]
  rfl
 by_cases hroom:n+m≤cap
 ·have hfit:n*i.size+news.length≤cur.size:=by rw [hl,hcs,←Nat.add_mul];exact Nat.mul_le_mul_right _ hroom
  have hr2:=run_append_room (P:=P) w t ty e i ht hi g n cap cur hg a m c news hl hnews h1 hroom hfit
  rw [hr2] at hr
  simp only [Result.ok.injEq] at hr
  left
  rw [←hr.1]
  rfl
 have holds:∀j u,xs[j]? =some u→w.cell? ((⟨g,0,none⟩:Addr).add j)=some u:=hown.cells (g:=g) rfl
 have hr2:=run_append_grow (P:=P) w t ty e i z ht hi hz ⟨g,0,none⟩ n cap xs hown.1 holds a m c news hl hnews (by omega) (by omega) (growslice_fits (by omega) hbytes)
 rw [hr2] at hr
 simp only [Result.ok.injEq] at hr
 right
 rw [←hr.1]
 rfl
theorem wp_push2 {K:Act→World→Prop} (s x:Operand) (t:TypeId) (hop:o.op= .call {callee:= .builtin .append,args:= #[s,x],argTypes:= #[t,t]})
    (e:TypeId) (z:Value) (size bytes:Nat) (ht:P.underlying t=some (.slice e)) (hi:(P.info? e).map (fun i=>(i.zero,i.size,i.bytes))=some (some z,size,bytes)) (hzs:z.cells.size=size) (hsz:0<size)
    (B:Nat) (M:Nat→Prop) (v:Value) (l:List α) (hs:a.eval s=v) (hsA:GR.sz α=size) (hown:Ow B M w e v l) (hM:∀k,v.ownBlock=some k→M k)
    (ad:Addr) (c:Nat) (news:List Value) (y:α) (hx:a.eval x= .slice (some ad) 1 c) (hy:GR.rep M w news y) (hnews:∀j u,news[j]? =some u→w.cell? (ad.add j)=some u) (h1:∀u∈news,u.oneCell'=true)
    (hlen:(l.length+1)*bytes≤140737488355328) (hlen2:l.length+1≤maxLen) (hB:B≤w.heap.size)
    (h:∀(a':Option Addr) (c':Nat) (l':List α) (w':World),Hid (l'=l++[y])→Ow B (fun k=>M k∨k=w.heap.size) w' e (.slice a' l'.length c') l'→Hid (∀k,(Value.slice a' l'.length c').ownBlock=some k→(v.ownBlock=some k∨k=w.heap.size)∧k<w'.heap.size)→
     w.grownBy w' v.ownBlock→K (a.put o.dst (.slice a' l'.length c')) w'):o.wp P a w K Q:=by
 obtain ⟨i,hi1,hi2,hi3,hi4⟩:=info_parts hi
 obtain ⟨xs,hr,hrep⟩:=hown
 subst hsA
 have hnl:news.length=1*GR.sz α:=by rw [GR.len hy];omega
 obtain ⟨v',w',hrun,ho,hgr,_⟩:=run_append_own (P:=P) w B t o.type e i z (GR.sz α) bytes ht hi1 hi2 hi3 hi4 hzs hsz v l.length xs hr ad 1 c news hnl hnews h1 hlen2 hlen hB
 have hblk:=append_block ht hi1 hi2 hi3 hi4 hr hnl hnews h1 hlen2 hlen hrun
 have he:Ext M (fun k=>M k∨k=w.heap.size) w w':=⟨hgr.size,fun k hk hm=>hgr.block k hk (fun e=>hm (hM k e.symm)),fun k hk hm=>hm.elim id (fun e=>by omega)⟩
 have hn:GR.rep (fun k=>M k∨k=w.heap.size) w' news y:=GR.ext he hy
 have hpush:Ow B (fun k=>M k∨k=w.heap.size) w' e v' (l++[y]):=Ow.push hr hrep he ho hn
 obtain ⟨a',c',hv,_,_⟩:=hpush.shape
 have hb2:∀k,v'.ownBlock=some k→(v.ownBlock=some k∨k=w.heap.size)∧k<w'.heap.size:=by
  intro k hk
  refine ⟨?_,(hpush.lt k hk).2⟩
  rcases hblk with e|e
  ·exact .inl (e▸hk)
  exact .inr (by rw [e] at hk;simpa using hk.symm)
 rw [hv] at hpush hb2
 unfold Oper.wp execOp
 simp only [hop,resolve,invoke,builtin,Sem.run_bind,Sem.run_pure,Result.andThen_ok,List.map_toArray,List.map_cons,List.map_nil,hs,hx,hrun]
 show K (a.put o.dst v') w'
 rw [hv]
 exact h a' c' _ w' rfl hpush hb2 hgr
theorem wpList_push2 (hg:o.guard=none) (s x:Operand) (t:TypeId) (hop:o.op= .call {callee:= .builtin .append,args:= #[s,x],argTypes:= #[t,t]})
    (e:TypeId) (z:Value) (size bytes:Nat) (ht:P.underlying t=some (.slice e)) (hi:(P.info? e).map (fun i=>(i.zero,i.size,i.bytes))=some (some z,size,bytes)) (hzs:z.cells.size=size) (hsz:0<size)
    (B:Nat) (M:Nat→Prop) (v:Value) (l:List α) (hs:a.eval s=v) (hsA:GR.sz α=size) (hown:Ow B M w e v l) (hM:∀k,v.ownBlock=some k→M k)
    (ad:Addr) (c:Nat) (news:List Value) (y:α) (hx:a.eval x= .slice (some ad) 1 c) (hy:GR.rep M w news y) (hnews:∀j u,news[j]? =some u→w.cell? (ad.add j)=some u) (h1:∀u∈news,u.oneCell'=true)
    (hlen:(l.length+1)*bytes≤140737488355328) (hlen2:l.length+1≤maxLen) (hB:B≤w.heap.size)
    (h:∀(a':Option Addr) (c':Nat) (l':List α) (w':World),Hid (l'=l++[y])→Ow B (fun k=>M k∨k=w.heap.size) w' e (.slice a' l'.length c') l'→Hid (∀k,(Value.slice a' l'.length c').ownBlock=some k→(v.ownBlock=some k∨k=w.heap.size)∧k<w'.heap.size)→
     w.grownBy w' v.ownBlock→wpList P ops Q rest (a.put o.dst (.slice a' l'.length c')) w'):wpList P ops Q (o::rest) a w:=
 wpList_plain hg fun _ hK=>wp_push2 s x t hop e z size bytes ht hi hzs hsz B M v l hs hsA hown hM ad c news y hx hy hnews h1 hlen hlen2 hB fun a' c' l' w' h2 h3 h4 h5=>hK _ _ (h a' c' l' w' h2 h3 h4 h5)
theorem wpList_push (hg:o.guard=none) (s x:Operand) (t:TypeId) (hop:o.op= .call {callee:= .builtin .append,args:= #[s,x],argTypes:= #[t,t]})
    (e:TypeId) (z:Value) (size bytes:Nat) (ht:P.underlying t=some (.slice e)) (hi:(P.info? e).map (fun i=>(i.zero,i.size,i.bytes))=some (some z,size,bytes)) (hzs:z.cells.size=size) (hsz:0<size)
    (B:Nat) (M:Nat→Prop) (v:Value) (l:List α) (hs:a.eval s=v) (hsA:GR.sz α=size) (hown:Ow B M w e v l) (hM:∀k,v.ownBlock=some k→M k)
    (ad:Addr) (c:Nat) (news:List Value) (y:α) (hx:a.eval x= .slice (some ad) 1 c) (hy:GR.rep M w news y) (hnews:∀j u,news[j]? =some u→w.cell? (ad.add j)=some u) (h1:∀u∈news,u.oneCell'=true)
    (hlen:(l.length+1)*bytes≤140737488355328) (hlen2:l.length+1≤maxLen) (hB:B≤w.heap.size)
    (h:∀(a':Option Addr) (c':Nat) (l':List α) (w':World),Hid (l'=l++[y])→Ow B M w' e (.slice a' l'.length c') l'→w.grownBy w' v.ownBlock→
     wpList P ops Q rest (a.put o.dst (.slice a' l'.length c')) w'):wpList P ops Q (o::rest) a w:=by
 obtain ⟨i,hi1,hi2,hi3,hi4⟩:=info_parts hi
 obtain ⟨xs,hr,hrep⟩:=hown
 subst hsA
 refine wpList_append_own w hg s x t hop B e i z (GR.sz α) bytes ht hi1 hi2 hi3 hi4 hzs hsz v l.length xs hs hr ad 1 c news hx (by rw [GR.len hy];omega) hnews h1 hlen2 hlen hB ?_
 intro v' w' ho hgr hiff
 have he:Ext M M w w':=Ext.grownBy hgr hM
 have hn:GR.rep M w' news y:=GR.ext he hy
 have hpush:Ow B M w' e v' (l++[y]):=Ow.push hr hrep he ho hn
 obtain ⟨a',c',hv,_,_⟩:=hpush.shape
 rw [hv]
 rw [hv] at hpush
 exact h a' c' _ w' rfl hpush hgr
theorem wpList_push_i {l:List Int} {s x:Operand} {t e:TypeId} {B:Nat} {v:Value} {g:Nat} {c:Nat} {y:Int} (hg:o.guard=none) (hop:o.op= .call {callee:= .builtin .append,args:= #[s,x],argTypes:= #[t,t]})
    (ht:P.underlying t=some (.slice e)) (hi:(P.info? e).map (fun i=>(i.zero,i.size,i.bytes))=some (some (.int .i64 0),1,8))
    (hs:a.eval s=v) (hx:a.eval x= .slice (some ⟨g,0,none⟩) 1 c) (hown:Ow B (fun k=>B≤k) w e v l) (hnew:w.cell? ⟨g,0,none⟩=some (.int .i64 y)) (hy:i64 y)
    (hlen:l.length<1000000000000) (hB:B≤w.heap.size)
    (h:∀(a':Option Addr) (c':Nat) (l':List Int) (w':World),Hid (l'=l++[y])→Ow B (fun k=>B≤k) w' e (.slice a' l'.length c') l'→Below B w w'→
     wpList P ops Q rest (a.put o.dst (.slice a' l'.length c')) w'):wpList P ops Q (o::rest) a w:=by
 refine wpList_push hg s x t hop e (.int .i64 0) 1 8 ht hi rfl (by decide) B (fun k=>B≤k) v l hs rfl hown (fun k hk=>(hown.lt k hk).1) ⟨g,0,none⟩ c [.int .i64 y] y hx ⟨rfl,hy⟩ ?_ ?_ (by omega) (by unfold maxLen;omega) hB ?_
 ·intro j u hj
  match j,hj with
  |0,hj=>simp at hj;subst hj;simpa [Addr.add] using hnew
 ·intro u hu;simp at hu;subst hu;rfl
 intro a' c' l' w' h1 h2 h3
 exact h a' c' l' w' h1 h2 ((Below.refl _ _).grown h3 hB (fun k hk=>(hown.lt k hk).1))
theorem wpList_mk_i {x:Operand} {t e:TypeId} {B n:Nat} (hg:o.guard=none) (hop:o.op= .makeSlice t x x) (ht:P.underlying t=some (.slice e))
    (hi:(P.info? e).map (fun i=>(i.zero,i.size,i.bytes))=some (some (.int .i64 0),1,8)) (hx:a.eval x= .int .i64 n) (hn:n<1000000000000) (hB:B≤w.heap.size)
    (h:∀(g c:Nat) (l:List Int) (w':World),Hid (l=List.replicate n 0)→Ow B (fun k=>B≤k) w' e (.slice (some ⟨g,0,none⟩) l.length c) l→Below w.heap.size w w'→w.heap.size≤g→
     wpList P ops Q rest (a.put o.dst (.slice (some ⟨g,0,none⟩) l.length c)) w'):wpList P ops Q (o::rest) a w:=
 wpList_mk hg x x t hop e (.int .i64 0) 8 ht hi rfl B (fun k=>B≤k) 0 rfl (fun _=>rep_int (by unfold i64;omega)) n hx hx (by omega) (by unfold maxLen;omega) hB
  fun g c l w' h1 h2 h3 _ h5=>h g c l w' h1 h2 h5 h3
theorem wpList_mk_b {x:Operand} {t e:TypeId} {B n:Nat} (hg:o.guard=none) (hop:o.op= .makeSlice t x x) (ht:P.underlying t=some (.slice e))
    (hi:(P.info? e).map (fun i=>(i.zero,i.size,i.bytes))=some (some (.bool false),1,1)) (hx:a.eval x= .int .i64 n) (hn:n<1000000000000) (hB:B≤w.heap.size)
    (h:∀(g c:Nat) (l:List Bool) (w':World),Hid (l=List.replicate n false)→Ow B (fun k=>B≤k) w' e (.slice (some ⟨g,0,none⟩) l.length c) l→Below w.heap.size w w'→w.heap.size≤g→
     wpList P ops Q rest (a.put o.dst (.slice (some ⟨g,0,none⟩) l.length c)) w'):wpList P ops Q (o::rest) a w:=
 wpList_mk hg x x t hop e (.bool false) 1 ht hi rfl B (fun k=>B≤k) false rfl (fun _=>rep_bool) n hx hx (by omega) (by unfold maxLen;omega) hB
  fun g c l w' h1 h2 h3 _ h5=>h g c l w' h1 h2 h5 h3
theorem wpList_push_row {rows:List (List Int)} {r:List Int} {s x:Operand} {t e:TypeId} {B:Nat} {M:Nat→Prop} {v:Value} {g c:Nat} {ar:Option Addr} {cr:Nat} (hg:o.guard=none) (hop:o.op= .call {callee:= .builtin .append,args:= #[s,x],argTypes:= #[t,t]})
    (ht:P.underlying t=some (.slice e)) (hi:(P.info? e).map (fun i=>(i.zero,i.size,i.bytes))=some (some (.slice none 0 0),1,24))
    (hs:a.eval s=v) (hx:a.eval x= .slice (some ⟨g,0,none⟩) 1 c) (hown:Ow B M w e v rows) (hM:∀k,v.ownBlock=some k→M k) (hnew:w.cell? ⟨g,0,none⟩=some (.slice ar r.length cr)) (hy:Sl M w ar cr r)
    (hlen:rows.length<1000000000000) (hB:B≤w.heap.size)
    (h:∀(a':Option Addr) (c':Nat) (l':List (List Int)) (w':World),Hid (l'=rows++[r])→Ow B (fun k=>M k∨k=w.heap.size) w' e (.slice a' l'.length c') l'→Hid (∀k,(Value.slice a' l'.length c').ownBlock=some k→(v.ownBlock=some k∨k=w.heap.size)∧k<w'.heap.size)→
     w.grownBy w' v.ownBlock→wpList P ops Q rest (a.put o.dst (.slice a' l'.length c')) w'):wpList P ops Q (o::rest) a w:=by
 refine wpList_push2 hg s x t hop e (.slice none 0 0) 1 24 ht hi rfl (by decide) B M v rows hs rfl hown hM ⟨g,0,none⟩ c [.slice ar r.length cr] r hx (rep_slice hy) ?_ ?_ (by omega) (by unfold maxLen;omega) hB h
 ·intro j u hj
  match j,hj with
  |0,hj=>simp at hj;subst hj;simpa [Addr.add] using hnew
 intro u hu;simp at hu;subst hu;rfl
theorem wp_push_row {K:Act→World→Prop} {rows:List (List Int)} {r:List Int} {s x:Operand} {t e:TypeId} {B:Nat} {M:Nat→Prop} {v:Value} {g c:Nat} {ar:Option Addr} {cr:Nat} (hop:o.op= .call {callee:= .builtin .append,args:= #[s,x],argTypes:= #[t,t]})
    (ht:P.underlying t=some (.slice e)) (hi:(P.info? e).map (fun i=>(i.zero,i.size,i.bytes))=some (some (.slice none 0 0),1,24))
    (hs:a.eval s=v) (hx:a.eval x= .slice (some ⟨g,0,none⟩) 1 c) (hown:Ow B M w e v rows) (hM:∀k,v.ownBlock=some k→M k) (hnew:w.cell? ⟨g,0,none⟩=some (.slice ar r.length cr)) (hy:Sl M w ar cr r)
    (hlen:rows.length<1000000000000) (hB:B≤w.heap.size)
    (h:∀(a':Option Addr) (c':Nat) (l':List (List Int)) (w':World),Hid (l'=rows++[r])→Ow B (fun k=>M k∨k=w.heap.size) w' e (.slice a' l'.length c') l'→Hid (∀k,(Value.slice a' l'.length c').ownBlock=some k→(v.ownBlock=some k∨k=w.heap.size)∧k<w'.heap.size)→
     w.grownBy w' v.ownBlock→K (a.put o.dst (.slice a' l'.length c')) w'):o.wp P a w K Q:=by
 refine wp_push2 s x t hop e (.slice none 0 0) 1 24 ht hi rfl (by decide) B M v rows hs rfl hown hM ⟨g,0,none⟩ c [.slice ar r.length cr] r hx (rep_slice hy) ?_ ?_ (by omega) (by unfold maxLen;omega) hB h
 ·intro j u hj
  match j,hj with
  |0,hj=>simp at hj;subst hj;simpa [Addr.add] using hnew
 intro u hu;simp at hu;subst hu;rfl
theorem wpList_app_ints {l0 l1:List Int} {s x:Operand} {t e:TypeId} {B:Nat} {M:Nat→Prop} {v:Value} {ad:Addr} {c:Nat} (hg:o.guard=none) (hop:o.op= .call {callee:= .builtin .append,args:= #[s,x],argTypes:= #[t,t]})
    (ht:P.underlying t=some (.slice e)) (hi:(P.info? e).map (fun i=>(i.zero,i.size,i.bytes))=some (some (.int .i64 0),1,8))
    (hs:a.eval s=v) (hx:a.eval x= .slice (some ad) l1.length c) (hown:Ow B (fun k=>B≤k) w e v l0) (hsrc:Sl M w (some ad) c l1)
    (hlen:l0.length+l1.length<1000000000000) (hB:B≤w.heap.size)
    (h:∀(a':Option Addr) (c':Nat) (l':List Int) (w':World),Hid (l'=l0++l1)→Ow B (fun k=>B≤k) w' e (.slice a' l'.length c') l'→Below B w w'→
     wpList P ops Q rest (a.put o.dst (.slice a' l'.length c')) w'):wpList P ops Q (o::rest) a w:=by
 obtain ⟨i,hi1,hi2,hi3,hi4⟩:=info_parts hi
 have hown0:=hown
 obtain ⟨xs,hr,hrep⟩:=hown
 refine wpList_append_own w hg s x t hop B e i (.int .i64 0) 1 8 ht hi1 hi2 hi3 hi4 rfl (by decide) v l0.length xs hs hr ad l1.length c (l1.map (.int .i64)) hx (by simp) ?_ ?_ (by unfold maxLen;omega) (by omega) hB ?_
 ·intro j u hj
  rw [List.getElem?_map] at hj
  obtain ⟨y,hy,rfl⟩:=Option.map_eq_some_iff.1 hj
  have hjl:j<l1.length:=by
   by_cases e:j<l1.length
   ·exact e
   rw [List.getElem?_eq_none (by omega)] at hy;simp at hy
  obtain ⟨b,off,z,had,hc,hz,_⟩:=hsrc.at_int hjl
  have had':ad=⟨b,off,none⟩:=by simpa using had
  have hz':y=z:=by have:=hz.out;rw [hy] at this;simpa using this
  rw [had',hz',Addr.add]
  split
  ·rename_i h0;subst h0;simpa using hc
  exact hc
 ·intro u hu
  obtain ⟨y,_,rfl⟩:=List.mem_map.1 hu
  rfl
 intro v' w' ho hgr hiff
 have hl0:xs.length=l0.length:=by have:=hr.1;simpa [GR.sz] using this
 have hpush:Ow B (fun k=>B≤k) w' e v' (l0++l1):=by
  refine ⟨xs++l1.map (Value.int .i64),by simpa [GR.sz] using ho,fun j y hj=> ?_⟩
  by_cases hlt:j<l0.length
  ·rw [List.getElem?_append_left hlt] at hj
   have:=hrep j y hj
   simp only [GR.sz,Nat.mul_one] at this ⊢
   rw [List.drop_append_of_le_length (by omega),List.take_append_of_le_length (by simp;omega)]
   exact this
  rw [List.getElem?_append_right (by omega)] at hj
  have hjl:j-l0.length<l1.length:=by
   by_cases e:j-l0.length<l1.length
   ·exact e
   rw [List.getElem?_eq_none (by omega)] at hj;simp at hj
  obtain ⟨b,off,z,_,_,hz,hzi⟩:=hsrc.at_int hjl
  have hz':y=z:=by have:=hz.out;rw [hj] at this;simpa using this
  subst hz'
  simp only [GR.sz,Nat.mul_one]
  have e1:((xs++l1.map (Value.int .i64)).drop j).take 1=[.int .i64 y]:=by
   apply List.ext_getElem?
   intro q
   rcases q with _|q
   ·rw [List.getElem?_take,if_pos (by omega),List.getElem?_drop,List.getElem?_append_right (by omega),List.getElem?_map,hl0,Nat.add_zero,hj]
    rfl
   rw [List.getElem?_take,if_neg (by omega)];rfl
  rw [e1]
  exact ⟨rfl,hzi.out⟩
 obtain ⟨a',c',hv,_,_⟩:=hpush.shape
 rw [hv]
 rw [hv] at hpush
 exact h a' c' _ w' rfl hpush ((Below.refl _ _).grown hgr hB (fun k hk=>(hown0.lt k hk).1))
theorem wp_app_ints {K:Act→World→Prop} {l0 l1:List Int} {s x:Operand} {t e:TypeId} {B:Nat} {M:Nat→Prop} {v:Value} {ad:Addr} {c:Nat} (hop:o.op= .call {callee:= .builtin .append,args:= #[s,x],argTypes:= #[t,t]})
    (ht:P.underlying t=some (.slice e)) (hi:(P.info? e).map (fun i=>(i.zero,i.size,i.bytes))=some (some (.int .i64 0),1,8))
    (hs:a.eval s=v) (hx:a.eval x= .slice (some ad) l1.length c) (hown:Ow B (fun k=>B≤k) w e v l0) (hsrc:Sl M w (some ad) c l1)
    (hlen:l0.length+l1.length<1000000000000) (hB:B≤w.heap.size)
    (h:∀(a':Option Addr) (c':Nat) (l':List Int) (w':World),Hid (l'=l0++l1)→Ow B (fun k=>B≤k) w' e (.slice a' l'.length c') l'→Below B w w'→
     K (a.put o.dst (.slice a' l'.length c')) w'):o.wp P a w K Q:=by
 obtain ⟨i,hi1,hi2,hi3,hi4⟩:=info_parts hi
 have hown0:=hown
 obtain ⟨xs,hr,hrep⟩:=hown
 refine wp_append_own (w:=w) s x t hop B e i (.int .i64 0) 1 8 ht hi1 hi2 hi3 hi4 rfl (by decide) v l0.length xs hs hr ad l1.length c (l1.map (.int .i64)) hx (by simp) ?_ ?_ (by unfold maxLen;omega) (by omega) hB ?_
 ·intro j u hj
  rw [List.getElem?_map] at hj
  obtain ⟨y,hy,rfl⟩:=Option.map_eq_some_iff.1 hj
  have hjl:j<l1.length:=by
   by_cases e:j<l1.length
   ·exact e
   rw [List.getElem?_eq_none (by omega)] at hy;simp at hy
  obtain ⟨b,off,z,had,hc,hz,_⟩:=hsrc.at_int hjl
  have had':ad=⟨b,off,none⟩:=by simpa using had
  have hz':y=z:=by have:=hz.out;rw [hy] at this;simpa using this
  rw [had',hz',Addr.add]
  split
  ·rename_i h0;subst h0;simpa using hc
  exact hc
 ·intro u hu
  obtain ⟨y,_,rfl⟩:=List.mem_map.1 hu
  rfl
 intro v' w' ho hgr hiff
 have hl0:xs.length=l0.length:=by have:=hr.1;simpa [GR.sz] using this
 have hpush:Ow B (fun k=>B≤k) w' e v' (l0++l1):=by
  refine ⟨xs++l1.map (Value.int .i64),by simpa [GR.sz] using ho,fun j y hj=> ?_⟩
  by_cases hlt:j<l0.length
  ·rw [List.getElem?_append_left hlt] at hj
   have:=hrep j y hj
   simp only [GR.sz,Nat.mul_one] at this ⊢
   rw [List.drop_append_of_le_length (by omega),List.take_append_of_le_length (by simp;omega)]
   exact this
  rw [List.getElem?_append_right (by omega)] at hj
  have hjl:j-l0.length<l1.length:=by
   by_cases e:j-l0.length<l1.length
   ·exact e
   rw [List.getElem?_eq_none (by omega)] at hj;simp at hj
  obtain ⟨b,off,z,_,_,hz,hzi⟩:=hsrc.at_int hjl
  have hz':y=z:=by have:=hz.out;rw [hj] at this;simpa using this
  subst hz'
  simp only [GR.sz,Nat.mul_one]
  have e1:((xs++l1.map (Value.int .i64)).drop j).take 1=[.int .i64 y]:=by
   apply List.ext_getElem?
   intro q
   rcases q with _|q
   ·rw [List.getElem?_take,if_pos (by omega),List.getElem?_drop,List.getElem?_append_right (by omega),List.getElem?_map,hl0,Nat.add_zero,hj]
    rfl
   rw [List.getElem?_take,if_neg (by omega)];rfl
  rw [e1]
  exact ⟨rfl,hzi.out⟩
 obtain ⟨a',c',hv,_,_⟩:=hpush.shape
 rw [hv]
 rw [hv] at hpush
 exact h a' c' _ w' rfl hpush ((Below.refl _ _).grown hgr hB (fun k hk=>(hown0.lt k hk).1))
end
theorem Ow.subM {α:Type} [GR α] {B:Nat} {M M':Nat→Prop} {w:World} {T:TypeId} {v:Value} {l:List α} (h:Ow B M w T v l) (hs:∀k,k<w.heap.size→M' k→M k):Ow B M' w T v l:=
 h.ext (Ext.sub_only hs) fun _ _=>rfl
structure Mk (B0:Nat) (M:Nat→Prop) (w:World) (bo:Nat) (inp st:Int) (aN:Option Addr) (cN:Nat) (rN:List (List Int)) (aO:Option Addr) (cO:Nat) (rO:List (List Int)):Prop where
 old:∀q,q<B0→M q
 mbo:M bo
 blk:w.heap[bo]? =some (.cells #[.int .i64 inp,.int .i64 st,.slice aN rN.length cN,.slice aO rO.length cO] 24 (0,0))
 n:Ow B0 M w 49 (.slice aN rN.length cN) rN
 o:Ow B0 M w 49 (.slice aO rO.length cO) rO
 mn:∀k,(Value.slice aN rN.length cN).ownBlock=some k→M k∧k≠bo
 mo:∀k,(Value.slice aO rO.length cO).ownBlock=some k→M k∧k≠bo
 no:∀k k',(Value.slice aN rN.length cN).ownBlock=some k→(Value.slice aO rO.length cO).ownBlock=some k'→k≠k'
 b0:B0≤bo
 lt:∀q,B0≤q→M q→q<w.heap.size
section
variable {B0:Nat} {M M':Nat→Prop} {w w':World} {bo:Nat} {inp st:Int} {aN:Option Addr} {cN:Nat} {rN:List (List Int)} {aO:Option Addr} {cO:Nat} {rO:List (List Int)}
theorem Mk.bolt (h:Mk B0 M w bo inp st aN cN rN aO cO rO):bo<w.heap.size:=h.lt bo h.b0 h.mbo
theorem Mk.ext (h:Mk B0 M w bo inp st aN cN rN aO cO rO) (e:Ext M M w w') (hb:∀k,B0≤k→M k→w'.heap[k]? =w.heap[k]?):Mk B0 M w' bo inp st aN cN rN aO cO rO:=
 ⟨h.old,h.mbo,(hb _ h.b0 h.mbo).trans h.blk,h.n.ext e (fun k hk=>hb k (h.n.lt k hk).1 (h.mn k hk).1),h.o.ext e (fun k hk=>hb k (h.o.lt k hk).1 (h.mo k hk).1),h.mn,h.mo,h.no,h.b0,fun q h1 h2=>Nat.lt_of_lt_of_le (h.lt q h1 h2) e.size⟩
theorem Mk.below (h:Mk B0 M w bo inp st aN cN rN aO cO rO) (hb:Below w.heap.size w w'):Mk B0 M w' bo inp st aN cN rN aO cO rO:=
 h.ext (Ext.of_below hb) fun k h1 h2=>hb.block k (h.lt k h1 h2)
theorem Mk.alloc (h:Mk B0 M w bo inp st aN cN rN aO cO rO) (o:Obj):Mk B0 M (w.alloc o) bo inp st aN cN rN aO cO rO:=h.below ((Below.refl _ _).alloc (Nat.le_refl _) o)
theorem Mk.drewN (h:Mk B0 M w bo inp st aN cN rN aO cO rO) (n:Nat):Mk B0 M (w.drewN n) bo inp st aN cN rN aO cO rO:=h.below (below_drewN _ _ _)
theorem Mk.drew (h:Mk B0 M w bo inp st aN cN rN aO cO rO):Mk B0 M w.drew bo inp st aN cN rN aO cO rO:=h.below ((Below.refl _ _).drew)
theorem Mk.open (h:Mk B0 M w bo inp st aN cN rN aO cO rO) {g:Nat} (hg:w.heap.size≤g) (hb:Below w.heap.size w w') (hg2:g<w'.heap.size):Mk B0 (fun k=>M k∨k=g) w' bo inp st aN cN rN aO cO rO:=by
 have e:Ext M (fun k=>M k∨k=g) w w':=⟨hb.size,fun k hk _=>hb.block k hk,fun k hk hm=>hm.elim id (fun e=>by omega)⟩
 have hbl:∀k,B0≤k→M k→w'.heap[k]? =w.heap[k]? :=fun k h1 h2=>hb.block k (h.lt k h1 h2)
 exact ⟨fun q hq=> .inl (h.old q hq),.inl h.mbo,(hbl _ h.b0 h.mbo).trans h.blk,h.n.ext e (fun k hk=>hbl k (h.n.lt k hk).1 (h.mn k hk).1),h.o.ext e (fun k hk=>hbl k (h.o.lt k hk).1 (h.mo k hk).1),
  fun k hk=>⟨.inl (h.mn k hk).1,(h.mn k hk).2⟩,fun k hk=>⟨.inl (h.mo k hk).1,(h.mo k hk).2⟩,h.no,h.b0,fun q h1 h2=>h2.elim (fun h3=>Nat.lt_of_lt_of_le (h.lt q h1 h3) hb.size) (fun e=>e▸hg2)⟩
theorem Mk.write {g:Nat} (h:Mk B0 (fun k=>M k∨k=g) w bo inp st aN cN rN aO cO rO) (hM:¬M g) (hbo:M bo) (hn:∀k,(Value.slice aN rN.length cN).ownBlock=some k→M k) (ho:∀k,(Value.slice aO rO.length cO).ownBlock=some k→M k) (j:Nat) (u:Value):
    Mk B0 (fun k=>M k∨k=g) (w.setCell ⟨g,j,none⟩ u) bo inp st aN cN rN aO cO rO:=by
 have e:Ext (fun k=>M k∨k=g) (fun k=>M k∨k=g) w (w.setCell ⟨g,j,none⟩ u):=Ext.setCell w (p:=⟨g,j,none⟩) (.inr rfl) u
 have hb:∀k,M k→(w.setCell ⟨g,j,none⟩ u).heap[k]? =w.heap[k]? :=fun k hk=>Below.heap_setCell _ _ _ _ (fun e=>hM (by simp at e;exact e▸hk))
 exact ⟨h.old,h.mbo,(hb _ hbo).trans h.blk,h.n.ext e (fun k hk=>hb k (hn k hk)),h.o.ext e (fun k hk=>hb k (ho k hk)),h.mn,h.mo,h.no,h.b0,fun q h1 h2=>by have:=h.lt q h1 h2;simpa [World.setCell] using this⟩
theorem Mk.close {g:Nat} (h:Mk B0 (fun k=>M k∨k=g) w bo inp st aN cN rN aO cO rO) (hold:∀q,q<B0→M q) (hbo:M bo) (hn:∀k,(Value.slice aN rN.length cN).ownBlock=some k→M k) (ho:∀k,(Value.slice aO rO.length cO).ownBlock=some k→M k):
    Mk B0 M w bo inp st aN cN rN aO cO rO:=
 ⟨hold,hbo,h.blk,h.n.subM (fun _ _ hm=> .inl hm),h.o.subM (fun _ _ hm=> .inl hm),fun k hk=>⟨hn k hk,(h.mn k hk).2⟩,fun k hk=>⟨ho k hk,(h.mo k hk).2⟩,h.no,h.b0,fun q h1 h2=>h.lt q h1 (.inl h2)⟩
theorem Mk.pushN (h:Mk B0 M w bo inp st aN cN rN aO cO rO) {a':Option Addr} {c':Nat} {l':List (List Int)} (ho:Ow B0 (fun k=>M k∨k=w.heap.size) w' 49 (.slice a' l'.length c') l')
    (hb:∀k,(Value.slice a' l'.length c').ownBlock=some k→(Value.slice aN rN.length cN).ownBlock=some k∨k=w.heap.size) (hgr:w.grownBy w' (Value.slice aN rN.length cN).ownBlock) (hsz:∀k,(Value.slice a' l'.length c').ownBlock=some k→k<w'.heap.size):
    Mk B0 (fun k=>M k∨(k=w.heap.size∧k<w'.heap.size)) (w'.setCell ⟨bo,2,none⟩ (.slice a' l'.length c')) bo inp st a' c' l' aO cO rO:=by
 have hbolt:=h.bolt
 have hnbo:some bo≠(Value.slice aN rN.length cN).ownBlock:=fun e=>(h.mn bo e.symm).2 rfl
 have hbok:w'.heap[bo]? =w.heap[bo]? :=hgr.block bo hbolt hnbo
 have hown':∀k,(Value.slice a' l'.length c').ownBlock=some k→k≠bo:=by
  intro k hk e
  rcases hb k hk with h1|h1
  ·exact (h.mn k h1).2 e
  omega
 have e1:Ext M (fun k=>M k∨(k=w.heap.size∧k<w'.heap.size)) w w':=⟨hgr.size,fun k hk hm=>hgr.block k hk (fun e=>hm (h.mn k e.symm).1),fun k hk hm=>hm.elim id (fun e=>by omega)⟩
 have e2:Ext (fun k=>M k∨k=w.heap.size) (fun k=>M k∨(k=w.heap.size∧k<w'.heap.size)) w' (w'.setCell ⟨bo,2,none⟩ (.slice a' l'.length c')):=
  (Ext.setCell w' (p:=⟨bo,2,none⟩) (.inl h.mbo) _).trans (Ext.sub_only fun k _ hm=>hm.elim .inl (fun e=> .inr e.1))
 have e3:Ext (fun k=>M k∨(k=w.heap.size∧k<w'.heap.size)) (fun k=>M k∨(k=w.heap.size∧k<w'.heap.size)) w' (w'.setCell ⟨bo,2,none⟩ (.slice a' l'.length c')):=Ext.setCell w' (p:=⟨bo,2,none⟩) (.inl h.mbo) _
 refine ⟨fun q hq=> .inl (h.old q hq),.inl h.mbo,?_,?_,?_,fun k hk=>⟨?_,hown' k hk⟩,fun k hk=>⟨.inl (h.mo k hk).1,(h.mo k hk).2⟩,fun k k' hk hk'=> ?_,h.b0,fun q h1 h2=> ?_⟩
 ·rw [heap_setCell_same _ _ _ _ _ _ (hbok.trans h.blk)]
  rfl
 ·exact ho.ext e2 fun k hk=>Below.heap_setCell _ _ _ _ (hown' k hk)
 ·refine (h.o.ext e1 fun k hk=>hgr.block k (h.o.lt k hk).2 (fun e=>h.no k k e.symm hk rfl)).ext e3 fun k hk=>Below.heap_setCell _ _ _ _ (h.mo k hk).2
 ·rcases hb k hk with h1|h1
  ·exact .inl (h.mn k h1).1
  exact .inr ⟨h1,hsz k hk⟩
 ·rcases hb k hk with h1|h1
  ·exact h.no k k' h1 hk'
  have:=(h.o.lt k' hk').2;omega
 have:q<w'.heap.size:=h2.elim (fun h3=>Nat.lt_of_lt_of_le (h.lt q h1 h3) hgr.size) (fun h3=>h3.2)
 simpa [World.setCell] using this
theorem Mk.pushO (h:Mk B0 M w bo inp st aN cN rN aO cO rO) {a':Option Addr} {c':Nat} {l':List (List Int)} (ho:Ow B0 (fun k=>M k∨k=w.heap.size) w' 49 (.slice a' l'.length c') l')
    (hb:∀k,(Value.slice a' l'.length c').ownBlock=some k→(Value.slice aO rO.length cO).ownBlock=some k∨k=w.heap.size) (hgr:w.grownBy w' (Value.slice aO rO.length cO).ownBlock) (hsz:∀k,(Value.slice a' l'.length c').ownBlock=some k→k<w'.heap.size):
    Mk B0 (fun k=>M k∨(k=w.heap.size∧k<w'.heap.size)) (w'.setCell ⟨bo,3,none⟩ (.slice a' l'.length c')) bo inp st aN cN rN a' c' l':=by
 have hbolt:=h.bolt
 have hnbo:some bo≠(Value.slice aO rO.length cO).ownBlock:=fun e=>(h.mo bo e.symm).2 rfl
 have hbok:w'.heap[bo]? =w.heap[bo]? :=hgr.block bo hbolt hnbo
 have hown':∀k,(Value.slice a' l'.length c').ownBlock=some k→k≠bo:=by
  intro k hk e
  rcases hb k hk with h1|h1
  ·exact (h.mo k h1).2 e
  omega
 have e1:Ext M (fun k=>M k∨(k=w.heap.size∧k<w'.heap.size)) w w':=⟨hgr.size,fun k hk hm=>hgr.block k hk (fun e=>hm (h.mo k e.symm).1),fun k hk hm=>hm.elim id (fun e=>by omega)⟩
 have e2:Ext (fun k=>M k∨k=w.heap.size) (fun k=>M k∨(k=w.heap.size∧k<w'.heap.size)) w' (w'.setCell ⟨bo,3,none⟩ (.slice a' l'.length c')):=
  (Ext.setCell w' (p:=⟨bo,3,none⟩) (.inl h.mbo) _).trans (Ext.sub_only fun k _ hm=>hm.elim .inl (fun e=> .inr e.1))
 have e3:Ext (fun k=>M k∨(k=w.heap.size∧k<w'.heap.size)) (fun k=>M k∨(k=w.heap.size∧k<w'.heap.size)) w' (w'.setCell ⟨bo,3,none⟩ (.slice a' l'.length c')):=Ext.setCell w' (p:=⟨bo,3,none⟩) (.inl h.mbo) _
 refine ⟨fun q hq=> .inl (h.old q hq),.inl h.mbo,?_,?_,?_,fun k hk=>⟨.inl (h.mn k hk).1,(h.mn k hk).2⟩,fun k hk=>⟨?_,hown' k hk⟩,fun k k' hk hk'=> ?_,h.b0,fun q h1 h2=> ?_⟩
 ·rw [heap_setCell_same _ _ _ _ _ _ (hbok.trans h.blk)]
  rfl
 ·refine (h.n.ext e1 fun k hk=>hgr.block k (h.n.lt k hk).2 (fun e=>h.no k k hk e.symm rfl)).ext e3 fun k hk=>Below.heap_setCell _ _ _ _ (h.mn k hk).2
 ·exact ho.ext e2 fun k hk=>Below.heap_setCell _ _ _ _ (hown' k hk)
 ·rcases hb k hk with h1|h1
  ·exact .inl (h.mo k h1).1
  exact .inr ⟨h1,hsz k hk⟩
 ·rcases hb k' hk' with h1|h1
  ·exact h.no k k' hk h1
  have:=(h.n.lt k hk).2;omega
 have:q<w'.heap.size:=h2.elim (fun h3=>Nat.lt_of_lt_of_le (h.lt q h1 h3) hgr.size) (fun h3=>h3.2)
 simpa [World.setCell] using this
theorem Mk.cells (h:Mk B0 M w bo inp st aN cN rN aO cO rO):w.cell? ⟨bo,0,none⟩=some (.int .i64 inp)∧w.cell? ⟨bo,1,none⟩=some (.int .i64 st)∧w.cell? ⟨bo,2,none⟩=some (.slice aN rN.length cN)∧w.cell? ⟨bo,3,none⟩=some (.slice aO rO.length cO)∧∀o,w.frozen? ⟨bo,o,none⟩=false:=by
 refine ⟨?_,?_,?_,?_,fun o=>frozen_of_row _ _ _ _ _ h.blk⟩<;>rw [cell_of_row _ _ _ _ _ _ h.blk]<;>rfl
theorem Mk.toMa (h:Mk B0 M w bo inp st aN cN rN aO cO rO) (h1:i64 inp) (h2:i64 st) {n:Nat} (hn:n≤B0):Ma (fun k=>k<n) w aN cN aO cO ⟨inp,st,rN,rO⟩:=by
 refine ⟨h1,h2,?_,?_⟩
 ·exact (h.n.subM (M':=fun k=>k<n) (fun k _ hk=>h.old k (by omega))).toSl fun k hk hlt=>by have:=(h.n.lt k hk).1;omega
 exact (h.o.subM (M':=fun k=>k<n) (fun k _ hk=>h.old k (by omega))).toSl fun k hk hlt=>by have:=(h.o.lt k hk).1;omega
theorem Mk.init (w:World) (inp st:Int):Mk w.heap.size (fun k=>k≤w.heap.size) (w.alloc (.cells #[.int .i64 inp,.int .i64 st,.slice none 0 0,.slice none 0 0] 24)) w.heap.size inp st none 0 [] none 0 []:=
 ⟨fun q hq=>Nat.le_of_lt hq,Nat.le_refl _,heap_alloc_new w _,Ow.nil,Ow.nil,fun k hk=>by simp [Value.ownBlock] at hk,fun k hk=>by simp [Value.ownBlock] at hk,fun k k' hk=>by simp [Value.ownBlock] at hk,Nat.le_refl _,
  fun q _ h2=>by simp;omega⟩
theorem Mk.notM (h:Mk B0 M w bo inp st aN cN rN aO cO rO) {g:Nat} (hg:w.heap.size≤g):¬M g:=fun hm=>by have:=h.lt g (by have:=h.b0;have:=h.bolt;omega) hm;omega
theorem set4 {w:World} {g:Nat} {x0 x1 x2 x3 y0 y1 y2 y3:Value} {T:TypeId} (h:w.heap[g]? =some (.cells #[x0,x1,x2,x3] T (0,0))):
    ((((w.setCell ⟨g,0,none⟩ y0).setCell ⟨g,1,none⟩ y1).setCell ⟨g,2,none⟩ y2).setCell ⟨g,3,none⟩ y3).heap[g]? =some (.cells #[y0,y1,y2,y3] T (0,0)):=by
 rw [heap_setCell_same _ _ _ _ _ _ (heap_setCell_same _ _ _ _ _ _ (heap_setCell_same _ _ _ _ _ _ (heap_setCell_same _ _ _ _ _ _ h)))]
 rfl
theorem cells4 {w:World} {g:Nat} {y0 y1 y2 y3:Value} {T:TypeId} (h:w.heap[g]? =some (.cells #[y0,y1,y2,y3] T (0,0))):
    w.cell? ⟨g,0,none⟩=some y0∧w.cell? ⟨g,1,none⟩=some y1∧w.cell? ⟨g,2,none⟩=some y2∧w.cell? ⟨g,3,none⟩=some y3:=by
 refine ⟨?_,?_,?_,?_⟩<;>rw [cell_of_row _ _ _ _ _ _ h]<;>rfl
end
section
variable {P:Program} {w:World} {o:Oper} {a:Act} {ops:Array Oper} {rest:List Oper} {Q:Exit→Act→World→Prop}
theorem wp_push_o {K:Act→World→Prop} {l:List Int} {s x:Operand} {t e:TypeId} {B:Nat} {M:Nat→Prop} {v:Value} {g:Nat} {c:Nat} {y:Int} (hop:o.op= .call {callee:= .builtin .append,args:= #[s,x],argTypes:= #[t,t]})
    (ht:P.underlying t=some (.slice e)) (hi:(P.info? e).map (fun i=>(i.zero,i.size,i.bytes))=some (some (.int .i64 0),1,8))
    (hs:a.eval s=v) (hx:a.eval x= .slice (some ⟨g,0,none⟩) 1 c) (hown:Ow B M w e v l) (hnew:w.cell? ⟨g,0,none⟩=some (.int .i64 y)) (hy:i64 y)
    (hlen:l.length<1000000000000) (hB:B≤w.heap.size)
    (h:∀(a':Option Addr) (c':Nat) (l':List Int) (w':World),Hid (l'=l++[y])→Ow B M w' e (.slice a' l'.length c') l'→Hid (∀k,(Value.slice a' l'.length c').ownBlock=some k→(v.ownBlock=some k∨k=w.heap.size)∧k<w'.heap.size)→
     w.grownBy w' v.ownBlock→K (a.put o.dst (.slice a' l'.length c')) w'):o.wp P a w K Q:=by
 refine wp_push2 s x t hop e (.int .i64 0) 1 8 ht hi rfl (by decide) B (fun _=>True) v l hs rfl hown.anyM (fun _ _=>trivial) ⟨g,0,none⟩ c [.int .i64 y] y hx ⟨rfl,hy⟩ ?_ ?_ (by omega) (by unfold maxLen;omega) hB fun a' c' l' w' h1 h2 h3 h4=>h a' c' l' w' h1 h2.anyM h3 h4
 ·intro j u hj
  match j,hj with
  |0,hj=>simp at hj;subst hj;simpa [Addr.add] using hnew
 intro u hu;simp at hu;subst hu;rfl
theorem wpList_push_o {l:List Int} {s x:Operand} {t e:TypeId} {B:Nat} {M:Nat→Prop} {v:Value} {g:Nat} {c:Nat} {y:Int} (hg:o.guard=none) (hop:o.op= .call {callee:= .builtin .append,args:= #[s,x],argTypes:= #[t,t]})
    (ht:P.underlying t=some (.slice e)) (hi:(P.info? e).map (fun i=>(i.zero,i.size,i.bytes))=some (some (.int .i64 0),1,8))
    (hs:a.eval s=v) (hx:a.eval x= .slice (some ⟨g,0,none⟩) 1 c) (hown:Ow B M w e v l) (hnew:w.cell? ⟨g,0,none⟩=some (.int .i64 y)) (hy:i64 y)
    (hlen:l.length<1000000000000) (hB:B≤w.heap.size)
    (h:∀(a':Option Addr) (c':Nat) (l':List Int) (w':World),Hid (l'=l++[y])→Ow B M w' e (.slice a' l'.length c') l'→Hid (∀k,(Value.slice a' l'.length c').ownBlock=some k→(v.ownBlock=some k∨k=w.heap.size)∧k<w'.heap.size)→
     w.grownBy w' v.ownBlock→wpList P ops Q rest (a.put o.dst (.slice a' l'.length c')) w'):wpList P ops Q (o::rest) a w:=
 wpList_plain hg fun _ hK=>wp_push_o hop ht hi hs hx hown hnew hy hlen hB fun a' c' l' w' h2 h3 h4 h5=>hK _ _ (h a' c' l' w' h2 h3 h4 h5)
end
section
variable {B0:Nat} {M M':Nat→Prop} {w w':World} {bo:Nat} {inp st:Int} {aN:Option Addr} {cN:Nat} {rN:List (List Int)} {aO:Option Addr} {cO:Nat} {rO:List (List Int)}
theorem Ow.kept {B:Nat} {T:TypeId} {v:Value} {l:List Int} (h:Ow B M w T v l) (hs:w.heap.size≤w'.heap.size) (hb:∀k,v.ownBlock=some k→w'.heap[k]? =w.heap[k]?):Ow B M w' T v l:=
 (h.anyM (M':=fun _=>True)).ext (M':=M) ⟨hs,fun _ _ hm=>absurd trivial hm,fun _ _ _=>trivial⟩ hb
theorem Mk.sub (h:Mk B0 M w bo inp st aN cN rN aO cO rO) (hs:∀k,M' k→M k) (hold:∀q,q<B0→M' q) (hbo:M' bo) (hn:∀k,(Value.slice aN rN.length cN).ownBlock=some k→M' k)
    (ho:∀k,(Value.slice aO rO.length cO).ownBlock=some k→M' k):Mk B0 M' w bo inp st aN cN rN aO cO rO:=
 ⟨hold,hbo,h.blk,h.n.subM fun k _ hk=>hs k hk,h.o.subM fun k _ hk=>hs k hk,fun k hk=>⟨hn k hk,(h.mn k hk).2⟩,fun k hk=>⟨ho k hk,(h.mo k hk).2⟩,h.no,h.b0,fun q h1 h2=>h.lt q h1 (hs q h2)⟩
end
section
variable {M:Nat→Prop} {w:World}
theorem Sl.lit {xs:List Int} {vs:Array Value} {b n:Nat} {T:TypeId} (h:w.heap[b]? =some (.cells vs T (0,0))) (hv:vs.toList=xs.map (.int .i64)) (hM:¬M b) (hx:∀x∈xs,i64 x) (hn:n=xs.length) (hs:n≤maxLen):
    Sl M w (some ⟨b,0,none⟩) n xs:=by
 refine ⟨by omega,hs,fun j x hj=>⟨b,0,[.int .i64 x],rfl,?_,hM,⟨rfl,hx x (List.mem_of_getElem? hj)⟩,fun i u hi=> ?_⟩⟩
 ·exact (Array.getElem?_eq_some_iff.1 h).1
 obtain ⟨rfl, rfl⟩ : i = 0 ∧ u = .int .i64 x := by
  rcases i with _|i
  ·simpa using hi.symm
  simp at hi
 have e:vs[j]? =some (.int .i64 x):=by rw [←Array.getElem?_toList,hv,List.getElem?_map,hj];rfl
 rw [cell_of_row _ _ _ _ _ _ h]
 simpa [GR.sz] using e
theorem Sl.litr {rows:List (List Int)} {vs:Array Value} {b n:Nat} {T:TypeId} (h:w.heap[b]? =some (.cells vs T (0,0))) (hM:¬M b) (hn:n=rows.length) (hs:n≤maxLen)
    (hx:∀(j:Nat) (r:List Int),rows[j]? =some r→∃a c,vs[j]? =some (Value.slice a r.length c)∧Sl M w a c r):
    Sl M w (some ⟨b,0,none⟩) n rows:=by
 refine ⟨by omega,hs,fun j x hj=> ?_⟩
 obtain ⟨a,c,h1,h2⟩:=hx j x hj
 refine ⟨b,0,[.slice a x.length c],rfl,?_,hM,⟨a,c,rfl,h2⟩,fun i u hi=> ?_⟩
 ·exact (Array.getElem?_eq_some_iff.1 h).1
 obtain ⟨rfl, rfl⟩ : i = 0 ∧ u = .slice a x.length c := by
  rcases i with _|i
  ·simpa using hi.symm
  simp at hi
 rw [cell_of_row _ _ _ _ _ _ h]
 simpa [GR.sz] using h1
theorem heap_old {o o':Obj} {k:Nat} (h:w.heap[k]? =some o):(w.alloc o').heap[k]? =some o:=by
 rw [Below.heap_alloc _ _ _ (Array.getElem?_eq_some_iff.1 h).1];exact h
end
def sgn (x y:Int):Int:=if x<y then -1 else if y<x then 1 else 0
theorem sgn_lt {x y:Int} (h:x<y):sgn x y= -1:=by unfold sgn;rw [if_pos h]
theorem sgn_gt {x y:Int} (h:y<x):sgn x y=1:=by unfold sgn;rw [if_neg (by omega),if_pos h]
theorem sgn_eq {x y:Int} (h:x=y):sgn x y=0:=by unfold sgn;rw [if_neg (by omega),if_neg (by omega)]
def lexW:List Int→List Int→Int
 |[],[]=>0
 |[],_::_=> -1
 |_::_,[]=>1
 |x::xs,y::ys=>if x=y then lexW xs ys else sgn x y
def cmpW (a b:List Int):Int:=if a.length=b.length then lexW a b else sgn a.length b.length
theorem lexW_step {a b:List Int} {k:Nat} {x y:Int} (hx:a[k]? =some x) (hy:b[k]? =some y):lexW (a.drop k) (b.drop k)=if x=y then lexW (a.drop (k+1)) (b.drop (k+1)) else sgn x y:=by
 have ha:k<a.length:=by
  by_cases e:k<a.length
  ·exact e
  rw [List.getElem?_eq_none (by omega)] at hx;simp at hx
 have hb:k<b.length:=by
  by_cases e:k<b.length
  ·exact e
  rw [List.getElem?_eq_none (by omega)] at hy;simp at hy
 rw [List.getElem?_eq_getElem ha] at hx
 rw [List.getElem?_eq_getElem hb] at hy
 rw [List.drop_eq_getElem_cons ha,List.drop_eq_getElem_cons hb,show a[k]=x by simpa using hx,show b[k]=y by simpa using hy]
 rfl
theorem lexW_right {a b:List Int} {k:Nat} (ha:k<a.length) (hb:¬k<b.length):lexW (a.drop k) (b.drop k)=1:=by
 have hb2:b.drop k=[]:=List.drop_eq_nil_of_le (by omega)
 rw [hb2,List.drop_eq_getElem_cons ha];rfl
theorem lexW_end {a b:List Int} {k:Nat} (ha:¬k<a.length):lexW (a.drop k) (b.drop k)=if k<b.length then -1 else 0:=by
 rw [List.drop_eq_nil_of_le (by omega)]
 by_cases hb:k<b.length
 ·rw [List.drop_eq_getElem_cons hb,if_pos hb];rfl
 rw [List.drop_eq_nil_of_le (by omega),if_neg hb];rfl
section
variable {M:Nat→Prop} {w:World} {a b:Option Addr} {c d:Nat}
theorem nan_any (x:Int):Calls Tryz.prog 186 #[.int .i64 x] w fun e w'=>e= .returned (.bool false)∧w'=w:=by
 go_enter Tryz.func186,Tryz.ntmps186
 go_wp2
 go_ret
 exact ⟨rfl,rfl⟩
theorem ccmp_any (x y:Int):Calls Tryz.prog 143 #[.int .i64 x,.int .i64 y] w fun e w'=>e= .returned (.int .i64 (sgn x y))∧w'=w:=by
 rcases Int.lt_trichotomy x y with h|h|h
 ·rw [sgn_lt h]
  go_enter Tryz.func143,Tryz.ntmps143
  go_wp2_with (go_at_call 186;refine (nan_any _).mono ?_;rintro e w' ⟨rfl,rfl⟩)
  go_ret
  exact ⟨rfl,rfl⟩
 ·rw [sgn_eq h]
  subst h
  go_enter Tryz.func143,Tryz.ntmps143
  go_wp2_with (go_at_call 186;refine (nan_any _).mono ?_;rintro e w' ⟨rfl,rfl⟩)
  go_ret
  exact ⟨rfl,rfl⟩
 rw [sgn_gt h]
 have h2:¬x<y:=by omega
 go_enter Tryz.func143,Tryz.ntmps143
 go_wp2_with (go_at_call 186;refine (nan_any _).mono ?_;rintro e w' ⟨rfl,rfl⟩)
 go_ret
 exact ⟨rfl,rfl⟩
theorem ret_i {x y:Int} (h:x=y):Ending.returned (.int .i64 x)= .returned (.int .i64 y):=by rw [h]
theorem scmp_any {xs ys:List Int} (h1:Sl M w a c xs) (h2:Sl M w b d ys):
    Calls Tryz.prog 144 #[.slice a xs.length c,.slice b ys.length d] w fun e w'=>e= .returned (.int .i64 (lexW xs ys))∧w'=w:=by
 have hl1:=h1.le
 have hl2:=h2.le
 have hL0:Hid (lexW xs ys=lexW (xs.drop 0) (ys.drop 0)):=rfl
 go_enter Tryz.func144,Tryz.ntmps144
 go_wp2
 go_loop [11] (fun i=>∃k:Nat,k≤xs.length∧i= .int .i64 k∧Hid (lexW xs ys=lexW (xs.drop k) (ys.drop k))∧k≤ys.length) (fun i=>xs.length-(intOf i).toNat)
 case atStart=>exact ⟨0,by omega,rfl,hL0,by omega⟩
 case round=>
  clear hL0
  obtain ⟨k,hk,rfl,hL,hky⟩:=hrel
  by_cases hlt:k<xs.length
  ·obtain ⟨b1,o1,x,rfl,hxc,hx, -⟩:=h1.at_int hlt
   by_cases hly:k<ys.length
   ·obtain ⟨b2,o2,y,rfl,hyc,hy, -⟩:=h2.at_int hly
    have HS:=Lib.hid (lexW_step hx.out hy.out)
    have hge:¬ys.length≤k:=by omega
    rcases Int.lt_trichotomy x y with h|h|h
    ·have hs:=sgn_lt h
     have HF:Hid (lexW xs ys= -1):=by unfold Hid;rw [hL.out,HS.out,if_neg (by omega),hs]
     go_wp2_with (go_at_call 143;refine (ccmp_any _ _).mono ?_;rintro e w' ⟨rfl,rfl⟩)
     go_ret
     exact ⟨ret_i HF.out.symm,rfl⟩
    ·have hs:=sgn_eq h
     have HF:Hid (lexW xs ys=lexW (xs.drop (k+1)) (ys.drop (k+1))):=by unfold Hid;rw [hL.out,HS.out,if_pos h]
     clear h
     go_wp2_with (go_at_call 143;refine (ccmp_any _ _).mono ?_;rintro e w' ⟨rfl,rfl⟩)
     go_round
     case rel=>exact ⟨k+1,by omega,by go_num,HF,by omega⟩
     case measure=>simp [intOf];omega
    have hs:=sgn_gt h
    have HF:Hid (lexW xs ys=1):=by unfold Hid;rw [hL.out,HS.out,if_neg (by omega),hs]
    go_wp2_with (go_at_call 143;refine (ccmp_any _ _).mono ?_;rintro e w' ⟨rfl,rfl⟩)
    go_ret
    exact ⟨ret_i HF.out.symm,rfl⟩
   have HF:Hid (lexW xs ys=1):=by unfold Hid;rw [hL.out,lexW_right hlt hly]
   have hge:ys.length≤k:=by omega
   go_wp2
   go_ret
   exact ⟨ret_i HF.out.symm,rfl⟩
  have HE:=Lib.hid (lexW_end (a:=xs) (b:=ys) hlt)
  have hkx:k=xs.length:=by omega
  by_cases hly:xs.length<ys.length
  ·have HF:Hid (lexW xs ys= -1):=by unfold Hid;rw [hL.out,HE.out,if_pos (by omega)]
   clear hkx
   go_wp2
   go_ret
   exact ⟨ret_i HF.out.symm,rfl⟩
  have HF:Hid (lexW xs ys=0):=by unfold Hid;rw [hL.out,HE.out,if_neg (by omega)]
  clear hkx
  go_wp2
  go_ret
  exact ⟨ret_i HF.out.symm,rfl⟩
def orW (l:List Int):Int:=(l.find? fun x=>decide (x≠0)).getD 0
theorem orW_at {l:List Int} {k:Nat} {x:Int} (h:∀y∈l.take k,y=0) (hx:l[k]? =some x) (h0:x≠0):orW l=x:=by
 have hk:k<l.length:=by
  by_cases e:k<l.length
  ·exact e
  rw [List.getElem?_eq_none (by omega)] at hx;simp at hx
 have e:l=l.take k++x::l.drop (k+1):=by
  conv=>lhs;rw [←List.take_append_drop k l]
  rw [List.drop_eq_getElem_cons hk]
  rw [List.getElem?_eq_getElem hk] at hx
  rw [show l[k]=x by simpa using hx]
 unfold orW
 rw [e,List.find?_append]
 have:(l.take k).find? (fun x=>decide (x≠0))=none:=by
  rw [List.find?_eq_none];intro y hy;simp [h y hy]
 rw [this]
 simp [h0]
theorem orW_none {l:List Int} (h:∀y∈l,y=0):orW l=0:=by
 unfold orW
 have:l.find? (fun x=>decide (x≠0))=none:=by
  rw [List.find?_eq_none];intro y hy;simp [h y hy]
 rw [this];rfl
theorem or_any {l:List Int} (h:Sl M w a c l):Calls Tryz.prog 142 #[.slice a l.length c] w fun e w'=>e= .returned (.int .i64 (orW l))∧w'=w:=by
 have hl:=h.le
 have h0:Hid (∀y∈l.take 0,y=0):=fun y hy=>by simp at hy
 go_enter Tryz.func142,Tryz.ntmps142
 go_wp2
 go_loop [8] (fun i=>∃k:Nat,k≤l.length∧i= .int .i64 k∧Hid (∀y∈l.take k,y=0)) (fun i=>l.length-(intOf i).toNat)
 case atStart=>exact ⟨0,by omega,rfl,h0⟩
 case round=>
  clear h0
  obtain ⟨k,hk,rfl,hz⟩:=hrel
  by_cases hlt:k<l.length
  ·obtain ⟨b1,o1,x,rfl,hxc,hx, -⟩:=h.at_int hlt
   by_cases h0:x=0
   ·have hb:(x !=0)=false:=by simp [h0]
    have hz2:Hid (∀y∈l.take (k+1),y=0):=by
     intro y hy
     rw [List.take_add_one,hx.out] at hy
     simp only [Option.toList_some,List.mem_append,List.mem_singleton] at hy
     rcases hy with hy|rfl
     ·exact hz.out y hy
     exact h0
    clear h0
    go_wp2
    go_round
    case rel=>exact ⟨k+1,by omega,by go_num,hz2⟩
    case measure=>simp [intOf];omega
   have hb:(x !=0)=true:=by simp [h0]
   have HF:=Lib.hid (orW_at hz.out hx.out h0)
   clear h0
   go_wp2
   go_ret
   exact ⟨ret_i HF.out.symm,rfl⟩
  have HF:=Lib.hid (orW_none (l:=l) (by have:=hz.out;rwa [List.take_of_length_le (by omega)] at this))
  go_wp2
  go_ret
  exact ⟨ret_i HF.out.symm,rfl⟩
theorem lexW_range:∀(a b:List Int),lexW a b= -1∨lexW a b=0∨lexW a b=1
 |[],[]=>by simp [lexW]
 |[],_::_=>by simp [lexW]
 |_::_,[]=>by simp [lexW]
 |x::xs,y::ys=>by
  simp only [lexW]
  split
  ·exact lexW_range xs ys
  unfold sgn;split
  ·simp
  split<;>simp
theorem sgn_range (x y:Int):sgn x y= -1∨sgn x y=0∨sgn x y=1:=by unfold sgn;split<;>(try split)<;>simp
theorem cmpW_or (a b:List Int):orW [sgn a.length b.length,lexW a b]=cmpW a b:=by
 unfold cmpW orW
 by_cases h:a.length=b.length
 ·rw [if_pos h,sgn_eq (by rw [h])]
  rcases lexW_range a b with e|e|e<;>simp [e]
 rw [if_neg h]
 have:sgn (a.length:Int) b.length≠0:=by
  unfold sgn
  split
  ·simp
  split
  ·simp
  omega
 simp [this]
end
end Go.Proofs.YtjagagpcjpcjjaaGreat
namespace Go.Proofs.YtjagagpcjpcjjaaGreat
def comW:List Int→List Int→Nat
 |x::xs,y::ys=>if x=y then comW xs ys+1 else 0
 |[],_=>0
 |_::_,[]=>0
theorem comW_le:∀(a b:List Int),comW a b≤a.length∧comW a b≤b.length
 |[],b=>by cases b<;>simp [comW]
 |_::_,[]=>by simp [comW]
 |x::xs,y::ys=>by
  have:=comW_le xs ys
  simp only [comW,List.length_cons]
  split<;>omega
theorem comW_same {x:Int} {xs ys:List Int}:comW (x::xs) (x::ys)=comW xs ys+1:=by simp [comW]
theorem comW_diff {x y:Int} {xs ys:List Int} (h:x≠y):comW (x::xs) (y::ys)=0:=by simp [comW,h]
theorem comW_nil_r (a:List Int):comW a []=0:=by cases a<;>simp [comW]
theorem comW_nil_l (b:List Int):comW [] b=0:=by cases b<;>simp [comW]
theorem comW_step {a b:List Int} {k:Nat} {x:Int} (h:comW a b=k+comW (a.drop k) (b.drop k)) (hx:a[k]? =some x) (hy:b[k]? =some x):comW a b=(k+1)+comW (a.drop (k+1)) (b.drop (k+1)):=by
 have ha:k<a.length:=by
  by_cases e:k<a.length
  ·exact e
  rw [List.getElem?_eq_none (by omega)] at hx;simp at hx
 have hb:k<b.length:=by
  by_cases e:k<b.length
  ·exact e
  rw [List.getElem?_eq_none (by omega)] at hy;simp at hy
 rw [List.getElem?_eq_getElem ha] at hx
 rw [List.getElem?_eq_getElem hb] at hy
 rw [List.drop_eq_getElem_cons ha,List.drop_eq_getElem_cons hb,show a[k]=x by simpa using hx,show b[k]=x by simpa using hy,comW_same] at h
 omega
theorem comW_stop {a b:List Int} {k:Nat} {x y:Int} (h:comW a b=k+comW (a.drop k) (b.drop k)) (hx:a[k]? =some x) (hy:b[k]? =some y) (hxy:x≠y):comW a b=k:=by
 have ha:k<a.length:=by
  by_cases e:k<a.length
  ·exact e
  rw [List.getElem?_eq_none (by omega)] at hx;simp at hx
 have hb:k<b.length:=by
  by_cases e:k<b.length
  ·exact e
  rw [List.getElem?_eq_none (by omega)] at hy;simp at hy
 rw [List.getElem?_eq_getElem ha] at hx
 rw [List.getElem?_eq_getElem hb] at hy
 rw [List.drop_eq_getElem_cons ha,List.drop_eq_getElem_cons hb,show a[k]=x by simpa using hx,show b[k]=y by simpa using hy,comW_diff hxy] at h
 omega
theorem comW_end {a b:List Int} {k:Nat} (h:comW a b=k+comW (a.drop k) (b.drop k)) (hk:a.length≤k∨b.length≤k):comW a b=k:=by
 rcases hk with hk|hk
 ·rw [List.drop_eq_nil_of_le hk,comW_nil_l] at h;omega
 have h2:b.drop k=[]:=List.drop_eq_nil_of_le hk
 rw [h2,comW_nil_r] at h;omega
theorem comW_prefix {a b:List Int}:comW a b=b.length↔b<+:a:=by
 constructor
 ·intro h
  induction b generalizing a with
  |nil=>exact List.nil_prefix
  |cons y ys ih=>
   cases a with
   |nil=>rw [comW_nil_l] at h;simp at h
   |cons x xs=>
    by_cases e:x=y
    ·subst e
     rw [comW_same,List.length_cons] at h
     rw [List.cons_prefix_cons]
     exact ⟨rfl,ih (by omega)⟩
    rw [comW_diff e,List.length_cons] at h;omega
 rintro ⟨t,rfl⟩
 induction b with
 |nil=>rw [List.nil_append,comW_nil_r];rfl
 |cons y ys ih=>rw [List.cons_append,comW_same,ih];simp
end Go.Proofs.YtjagagpcjpcjjaaGreat
namespace Go.Proofs.YtjagagpcjpcjjaaGreat
open Go.RowKit
section
variable {M:Nat→Prop} {w:World} {a b:Option Addr} {c d:Nat}
theorem sl_drw {α:Type} [GR α] {M:Nat→Prop} {w wr:World} {a:Option Addr} {c:Nat} {l:List α} (h:Hid (∃n,wr=w.drewN n)) (hs:Sl M w a c l):Sl M wr a c l:=by
 obtain ⟨n,e⟩:=h.out;rw [e];exact hs.drewN n
theorem drw_add {w wr:World} (h:Hid (∃n,wr=w.drewN n)) (m:Nat):Hid (∃n,wr.drewN m=w.drewN n):=by
 obtain ⟨n,rfl⟩:=h.out
 exact ⟨_,World.drewN_drewN _ _ _⟩
theorem com_any {xs ys:List Int} (h1:Sl M w a c xs) (h2:Sl M w b d ys):
    Calls Tryz.prog 117 #[.slice a xs.length c,.slice b ys.length d] w fun e w'=>e= .returned (.int .i64 (comW xs ys))∧Hid (∃n,w'=w.drewN n):=by
 have hl1:=h1.le
 have hl2:=h2.le
 have hC0:Hid (comW xs ys=0+comW (xs.drop 0) (ys.drop 0)):=by unfold Hid;simp
 have hD0:Hid (∃n,w=w.drewN n):=⟨0,rfl⟩
 go_enter Tryz.func117,Tryz.ntmps117
 go_wp2
 ·go_loopw [11] (fun i wr=>∃k:Nat,k≤xs.length∧k≤ys.length∧i= .int .i64 k∧Hid (comW xs ys=k+comW (xs.drop k) (ys.drop k))∧Hid (∃n,wr=w.drewN n)) (fun i _=>ys.length-(intOf i).toNat)
  case atStart=>exact ⟨0,by omega,by omega,rfl,hC0,hD0⟩
  case round=>
   clear hC0 hD0
   obtain ⟨k,hkx,hky,rfl,hC,hD⟩:=hrel
   obtain ⟨w1,rfl⟩:∃w1:World,w1=wr:=⟨_,rfl⟩
   by_cases hk:k<ys.length
   ·have hx:k<xs.length:=by omega
    have hy:k<ys.length:=by omega
    obtain ⟨b1,o1,x,rfl,hxc,hxk, -⟩:=(sl_drw hD h1).at_int hx
    obtain ⟨b2,o2,y,rfl,hyc,hyk, -⟩:=(sl_drw hD h2).at_int hy
    by_cases hxy:x=y
    ·have hb:(x !=y)=false:=by simp [hxy]
     have hC2:Hid (comW xs ys=(k+1)+comW (xs.drop (k+1)) (ys.drop (k+1))):=comW_step hC.out hxk.out (by rw [hxy];exact hyk.out)
     clear hxy
     go_wp2
     refine wp_quiet_fast (by kernel_rfl) (by kernel_rfl) ?_
     repeat (first|go_big_quiet_step (fail)|quiet_step (fail))
     refine wpQuiet_nil ?_
     intro _ hw'
     obtain ⟨nq,hw''⟩:=hw'
     subst hw''
     go_wp2
     go_roundw
     case rel=>exact ⟨k+1,by omega,by omega,by go_num,hC2,drw_add hD _⟩
     case measure=>simp [intOf];omega
    have hb:(x !=y)=true:=by simp [hxy]
    have HF:=Lib.hid (comW_stop hC.out hxk.out hyk.out hxy)
    clear hxy
    go_wp2
    refine wp_quiet_fast (by kernel_rfl) (by kernel_rfl) ?_
    repeat (first|go_big_quiet_step (fail)|quiet_step (fail))
    refine wpQuiet_nil ?_
    intro _ hw'
    obtain ⟨nq,hw''⟩:=hw'
    subst hw''
    go_wp2
    go_ret
    exact ⟨ret_i (by rw [HF.out]),drw_add hD _⟩
   have HF:=Lib.hid (comW_end hC.out (by omega))
   have hkB:Hid (k=ys.length):=by unfold Hid;omega
   go_wp2
   all_goals
    first
     |(exfalso;omega)
     |(go_ret;exact ⟨ret_i (by rw [HF.out,hkB.out]),hD⟩)
 go_loopw [11] (fun i wr=>∃k:Nat,k≤xs.length∧k≤ys.length∧i= .int .i64 k∧Hid (comW xs ys=k+comW (xs.drop k) (ys.drop k))∧Hid (∃n,wr=w.drewN n)) (fun i _=>xs.length-(intOf i).toNat)
 case atStart=>exact ⟨0,by omega,by omega,rfl,hC0,hD0⟩
 case round=>
  clear hC0 hD0
  obtain ⟨k,hkx,hky,rfl,hC,hD⟩:=hrel
  obtain ⟨w1,rfl⟩:∃w1:World,w1=wr:=⟨_,rfl⟩
  by_cases hk:k<xs.length
  ·have hx:k<xs.length:=by omega
   have hy:k<ys.length:=by omega
   obtain ⟨b1,o1,x,rfl,hxc,hxk, -⟩:=(sl_drw hD h1).at_int hx
   obtain ⟨b2,o2,y,rfl,hyc,hyk, -⟩:=(sl_drw hD h2).at_int hy
   by_cases hxy:x=y
   ·have hb:(x !=y)=false:=by simp [hxy]
    have hC2:Hid (comW xs ys=(k+1)+comW (xs.drop (k+1)) (ys.drop (k+1))):=comW_step hC.out hxk.out (by rw [hxy];exact hyk.out)
    clear hxy
    go_wp2
    refine wp_quiet_fast (by kernel_rfl) (by kernel_rfl) ?_
    repeat (first|go_big_quiet_step (fail)|quiet_step (fail))
    refine wpQuiet_nil ?_
    intro _ hw'
    obtain ⟨nq,hw''⟩:=hw'
    subst hw''
    go_wp2
    go_roundw
    case rel=>exact ⟨k+1,by omega,by omega,by go_num,hC2,drw_add hD _⟩
    case measure=>simp [intOf];omega
   have hb:(x !=y)=true:=by simp [hxy]
   have HF:=Lib.hid (comW_stop hC.out hxk.out hyk.out hxy)
   clear hxy
   go_wp2
   refine wp_quiet_fast (by kernel_rfl) (by kernel_rfl) ?_
   repeat (first|go_big_quiet_step (fail)|quiet_step (fail))
   refine wpQuiet_nil ?_
   intro _ hw'
   obtain ⟨nq,hw''⟩:=hw'
   subst hw''
   go_wp2
   go_ret
   exact ⟨ret_i (by rw [HF.out]),drw_add hD _⟩
  have HF:=Lib.hid (comW_end hC.out (by omega))
  have hkB:Hid (k=xs.length):=by unfold Hid;omega
  go_wp2
  all_goals
   first
    |(exfalso;omega)
    |(go_ret;exact ⟨ret_i (by rw [HF.out,hkB.out]),hD⟩)
end
section
variable {M:Nat→Prop} {w:World} {a b:Option Addr} {c d:Nat}
theorem lex_any {xs ys:List Int} (h1:Sl M w a c xs) (h2:Sl M w b d ys):
    Calls Tryz.prog 105 #[.slice a xs.length c,.slice b ys.length d] w fun e w'=>e= .returned (.int .i64 (lexW xs ys))∧w'=w:=by
 go_enter Tryz.func105,Tryz.ntmps105
 go_wp2_with fail
 refine (scmp_any h1 h2).mono ?_
 rintro e w1 ⟨rfl,hw⟩
 obtain rfl:w=w1:=hw.symm
 go_wp2
 go_ret
 exact ⟨rfl,rfl⟩
theorem hasp_any {xs ys:List Int} (h1:Sl M w a c xs) (h2:Sl M w b d ys):
    Calls Tryz.prog 62 #[.slice a xs.length c,.slice b ys.length d] w fun e w'=>e= .returned (.bool (decide (comW xs ys=ys.length)))∧Hid (∃n,w'=w.drewN n):=by
 by_cases h:comW xs ys=ys.length
 ·rw [decide_eq_true h]
  have hb:(((comW xs ys:Nat):Int)==((ys.length:Nat):Int))=true:=by simp [h]
  have HC:=Lib.hid (com_any h1 h2)
  clear h
  go_enter Tryz.func62,Tryz.ntmps62
  go_wp2_with fail
  refine (HC.out).mono ?_
  rintro e w1 ⟨rfl,hD⟩
  go_wp2
  go_ret
  exact ⟨rfl,hD⟩
 rw [decide_eq_false h]
 have hb:(((comW xs ys:Nat):Int)==((ys.length:Nat):Int))=false:=by simp;omega
 have HC:=Lib.hid (com_any h1 h2)
 clear h
 go_enter Tryz.func62,Tryz.ntmps62
 go_wp2_with fail
 refine (HC.out).mono ?_
 rintro e w1 ⟨rfl,hD⟩
 go_wp2
 go_ret
 exact ⟨rfl,hD⟩
end
section
variable {M M' M'':Nat→Prop} {w:World} {a a' a'':Option Addr} {c c' c'':Nat} {T:TypeId}
theorem sl_new {α:Type} [GR α] {l:List α} (h:Sl M w a c l) (o:Obj):Sl (fun _=>False) (w.alloc o) a c l:=(h.anti (M':=fun _=>False) fun _ _ h=>h.elim).alloc o
theorem rows2 {r s:List Int} {n m:Nat} (h:Sl M w a c r) (h2:Sl M' w a' c' s) (hn:n=r.length) (hm:m=s.length):
    Sl (fun _=>False) (w.alloc (.cells #[.slice a n c,.slice a' m c'] T)) (some ⟨w.heap.size,0,none⟩) 2 [r,s]:=by
 subst hn hm
 refine Sl.litr (heap_alloc_new _ _) id rfl (by unfold maxLen;omega) fun j x hj=> ?_
 match j,hj with
 |0,hj=>simp at hj;subst hj;exact ⟨a,c,rfl,sl_new h _⟩
 |1,hj=>simp at hj;subst hj;exact ⟨a',c',rfl,sl_new h2 _⟩
theorem rows3 {r s t:List Int} {n m k:Nat} (h:Sl M w a c r) (h2:Sl M' w a' c' s) (h3:Sl M'' w a'' c'' t) (hn:n=r.length) (hm:m=s.length) (hk:k=t.length):
    Sl (fun _=>False) (w.alloc (.cells #[.slice a n c,.slice a' m c',.slice a'' k c''] T)) (some ⟨w.heap.size,0,none⟩) 3 [r,s,t]:=by
 subst hn hm hk
 refine Sl.litr (heap_alloc_new _ _) id rfl (by unfold maxLen;omega) fun j x hj=> ?_
 match j,hj with
 |0,hj=>simp at hj;subst hj;exact ⟨a,c,rfl,sl_new h _⟩
 |1,hj=>simp at hj;subst hj;exact ⟨a',c',rfl,sl_new h2 _⟩
 |2,hj=>simp at hj;subst hj;exact ⟨a'',c'',rfl,sl_new h3 _⟩
theorem box1 (w:World) (v:Value) (T:TypeId) {n:Nat} (hn:w.heap.size=n):(w.alloc (.cells #[v] T)).cell? ⟨n,0,none⟩=some v:=by
 have h:=heap_alloc_new w (.cells #[v] T)
 rw [hn] at h
 rw [cell_of_row _ _ _ _ _ _ h];rfl
end
theorem flat2 (r s:List Int):[r,s].flatten=r++s:=by simp
theorem flat3 (r s t:List Int):[r,s,t].flatten=r++(s++t):=by simp
def wErr (w:List Int) (n:Int):Int:=if n<1∨1024<n then 2 else if 1024<w.length then 3 else if ∃a∈w,a<0∨n≤a then 1 else 0
theorem wErr_r {w:List Int} {n:Int} (h:n<1∨1024<n):wErr w n=2:=by unfold wErr;rw [if_pos h]
theorem wErr_l {w:List Int} {n:Int} (h:¬(n<1∨1024<n)) (h2:1024<w.length):wErr w n=3:=by unfold wErr;rw [if_neg h,if_pos h2]
theorem wErr_i {w:List Int} {n:Int} (h:¬(n<1∨1024<n)) (h2:¬1024<w.length) (h3:∃a∈w,a<0∨n≤a):wErr w n=1:=by unfold wErr;rw [if_neg h,if_neg h2,if_pos h3]
theorem wErr_0 {w:List Int} {n:Int} (h:¬(n<1∨1024<n)) (h2:¬1024<w.length) (h3:¬∃a∈w,a<0∨n≤a):wErr w n=0:=by unfold wErr;rw [if_neg h,if_neg h2,if_neg h3]
section
variable {M:Nat→Prop} {w:World} {a:Option Addr} {c:Nat}
theorem perm_yes (n:Int) (h:¬(n<1∨1024<n)):Calls Tryz.prog 110 #[.int .i64 n] w fun e w'=>e= .returned (.bool true)∧w'=w:=by
 have h1:1≤n:=by omega
 have h2:n≤1024:=by omega
 clear h
 go_enter Tryz.func110,Tryz.ntmps110
 go_wp2
 go_ret
 exact ⟨rfl,rfl⟩
theorem perm_no (n:Int) (h:n<1∨1024<n):Calls Tryz.prog 110 #[.int .i64 n] w fun e w'=>e= .returned (.bool false)∧w'=w:=by
 by_cases h0:1≤n
 ·have h1:¬n≤1024:=by omega
  clear h
  go_enter Tryz.func110,Tryz.ntmps110
  go_wp2
  go_ret
  exact ⟨rfl,rfl⟩
 clear h
 go_enter Tryz.func110,Tryz.ntmps110
 go_wp2
 go_ret
 exact ⟨rfl,rfl⟩
def badS (n x:Int):Bool:=decide (x<0∨n≤x)
theorem badS_t {n x:Int} (h:x<0∨n≤x):badS n x=true:=by simp [badS,h]
theorem badS_f {n x:Int} (h:¬(x<0∨n≤x)):badS n x=false:=by simp [badS,h]
theorem test_t {b:Nat} (n x:Int) (hc:w.cell? ⟨b,0,none⟩=some (.int .i64 n)) (h:x<0∨n≤x):Calls Tryz.prog 112 #[.int .i64 x,.pointer (some ⟨b,0,none⟩)] w fun e w'=>e= .returned (.bool true)∧w'=w:=by
 by_cases h0:x<0
 ·clear h
  go_enter Tryz.func112,Tryz.ntmps112
  go_wp2
  go_ret
  exact ⟨rfl,rfl⟩
 have h1:n≤x:=by omega
 clear h
 go_enter Tryz.func112,Tryz.ntmps112
 go_wp2
 go_ret
 exact ⟨rfl,rfl⟩
theorem test_f {b:Nat} (n x:Int) (hc:w.cell? ⟨b,0,none⟩=some (.int .i64 n)) (h:¬(x<0∨n≤x)):Calls Tryz.prog 112 #[.int .i64 x,.pointer (some ⟨b,0,none⟩)] w fun e w'=>e= .returned (.bool false)∧w'=w:=by
 have h0:¬x<0:=by omega
 have h1:¬n≤x:=by omega
 clear h
 go_enter Tryz.func112,Tryz.ntmps112
 go_wp2
 go_ret
 exact ⟨rfl,rfl⟩
theorem findIdx_at {l:List Int} {p:Int→Bool} {k:Nat} {x:Int} (hx:l[k]? =some x) (hp:p x=true) (hn:∀y∈l.take k,p y=false):l.findIdx p=k:=by
 have hk:k<l.length:=by
  by_cases e:k<l.length
  ·exact e
  rw [List.getElem?_eq_none (by omega)] at hx;simp at hx
 rw [List.findIdx_eq hk]
 refine ⟨by rw [List.getElem?_eq_getElem hk] at hx;rw [show l[k]=x by simpa using hx];exact hp,fun j hj=>hn _ ?_⟩
 rw [List.mem_iff_getElem?]
 exact ⟨j,by rw [List.getElem?_take,if_pos hj,List.getElem?_eq_getElem (by omega)]⟩
theorem take_bad {l:List Int} {p:Int→Bool} {k:Nat} {x:Int} (hx:l[k]? =some x) (hp:p x=false) (hn:∀y∈l.take k,p y=false):∀y∈l.take (k+1),p y=false:=by
 intro y hy
 rw [List.take_add_one,hx] at hy
 simp only [Option.toList_some,List.mem_append,List.mem_singleton] at hy
 rcases hy with hy|rfl
 ·exact hn y hy
 exact hp
theorem ret_ic {x y:Int} (h:x=y):Ending.returned (.int .i64 x)= .returned (.int .i64 y):=by rw [h]
theorem idx_yes {b:Nat} {l:List Int} (h:Sl M w a c l) (n:Int) (hc:w.cell? ⟨b,0,none⟩=some (.int .i64 n)) (hb:∃x∈l,x<0∨n≤x):
    Calls Tryz.prog 162 #[.slice a l.length c,.func (Fn.func 112) #[] #[.pointer (some ⟨b,0,none⟩)]] w fun e w'=>e= .returned (.int .i64 (l.findIdx (badS n)))∧w'=w:=by
 have hll:=h.le
 have HB:=Lib.hid hb
 have h0:Hid (∀y∈l.take 0,badS n y=false):=fun y hy=>by simp at hy
 clear hb
 go_enter Tryz.func162,Tryz.ntmps162
 go_wp2
 go_loop [8] (fun i=>∃k:Nat,k≤l.length∧i= .int .i64 k∧Hid (∀y∈l.take k,badS n y=false)) (fun i=>l.length-(intOf i).toNat)
 case atStart=>exact ⟨0,by omega,rfl,h0⟩
 case round=>
  clear h0
  obtain ⟨k,hk,rfl,hz⟩:=hrel
  have hlt:k<l.length:=by
   by_cases e:k<l.length
   ·exact e
   obtain ⟨x,hx,hx2⟩:=HB.out
   have:=hz.out x (by rw [List.take_of_length_le (by omega)];exact hx)
   rw [badS_t hx2] at this;cases this
  obtain ⟨b1,o1,x,rfl,hxc,hx, -⟩:=h.at_int hlt
  by_cases hbad:x<0∨n≤x
  ·have HF:=Lib.hid (findIdx_at (p:=badS n) hx.out (badS_t hbad) hz.out)
   have HD:=Lib.hid hbad
   clear hbad
   go_wp2_with fail
   refine (test_t n x hc HD.out).mono ?_
   rintro e w2 ⟨rfl,hw⟩
   obtain rfl:w=w2:=hw.symm
   go_wp2
   go_ret
   exact ⟨ret_ic (by rw [HF.out]),rfl⟩
  have hz2:Hid (∀y∈l.take (k+1),badS n y=false):=take_bad hx.out (badS_f hbad) hz.out
  have HD:=Lib.hid hbad
  clear hbad
  go_wp2_with fail
  refine (test_f n x hc HD.out).mono ?_
  rintro e w2 ⟨rfl,hw⟩
  obtain rfl:w=w2:=hw.symm
  go_wp2
  go_round
  case rel=>exact ⟨k+1,by omega,by go_num,hz2⟩
  case measure=>simp [intOf];omega
theorem idx_no {b:Nat} {l:List Int} (h:Sl M w a c l) (n:Int) (hc:w.cell? ⟨b,0,none⟩=some (.int .i64 n)) (hb:¬∃x∈l,x<0∨n≤x):
    Calls Tryz.prog 162 #[.slice a l.length c,.func (Fn.func 112) #[] #[.pointer (some ⟨b,0,none⟩)]] w fun e w'=>e= .returned (.int .i64 (-1))∧w'=w:=by
 have hll:=h.le
 have HB:=Lib.hid hb
 clear hb
 go_enter Tryz.func162,Tryz.ntmps162
 go_wp2
 go_loop [8] (fun i=>∃k:Nat,k≤l.length∧i= .int .i64 k) (fun i=>l.length-(intOf i).toNat)
 case atStart=>exact ⟨0,by omega,rfl⟩
 case round=>
  obtain ⟨k,hk,rfl⟩:=hrel
  by_cases hlt:k<l.length
  ·obtain ⟨b1,o1,x,rfl,hxc,hx, -⟩:=h.at_int hlt
   have HD:=Lib.hid (show ¬(x<0∨n≤x) from fun e=>HB.out ⟨x,List.mem_of_getElem? hx.out,e⟩)
   go_wp2_with fail
   refine (test_f n x hc HD.out).mono ?_
   rintro e w2 ⟨rfl,hw⟩
   obtain rfl:w=w2:=hw.symm
   go_wp2
   go_round
   case rel=>exact ⟨k+1,by omega,by go_num⟩
   case measure=>simp [intOf];omega
  go_wp2
  go_ret
  exact ⟨rfl,rfl⟩
theorem cont_yes {b:Nat} {l:List Int} (h:Sl M w a c l) (n:Int) (hc:w.cell? ⟨b,0,none⟩=some (.int .i64 n)) (hb:∃x∈l,x<0∨n≤x):
    Calls Tryz.prog 111 #[.slice a l.length c,.func (Fn.func 112) #[] #[.pointer (some ⟨b,0,none⟩)]] w fun e w'=>e= .returned (.bool true)∧w'=w:=by
 have HI:=Lib.hid (idx_yes h n hc hb)
 clear hb hc
 go_enter Tryz.func111,Tryz.ntmps111
 go_wp2_with fail
 refine (HI.out).mono ?_
 rintro e w2 ⟨rfl,hw⟩
 obtain rfl:w=w2:=hw.symm
 go_wp2
 go_ret
 exact ⟨rfl,rfl⟩
theorem cont_no {b:Nat} {l:List Int} (h:Sl M w a c l) (n:Int) (hc:w.cell? ⟨b,0,none⟩=some (.int .i64 n)) (hb:¬∃x∈l,x<0∨n≤x):
    Calls Tryz.prog 111 #[.slice a l.length c,.func (Fn.func 112) #[] #[.pointer (some ⟨b,0,none⟩)]] w fun e w'=>e= .returned (.bool false)∧w'=w:=by
 have HI:=Lib.hid (idx_no h n hc hb)
 clear hb hc
 go_enter Tryz.func111,Tryz.ntmps111
 go_wp2_with fail
 refine (HI.out).mono ?_
 rintro e w2 ⟨rfl,hw⟩
 obtain rfl:w=w2:=hw.symm
 go_wp2
 go_ret
 exact ⟨rfl,rfl⟩
theorem wcheck_any {l:List Int} (h:Sl M w a c l) (n:Int):
    Calls Tryz.prog 56 #[.slice a l.length c,.int .i64 n] w fun e w'=>e= .returned (.int .i64 (wErr l n))∧Below w.heap.size w w':=by
 have hll:=h.le
 have hS:=h.alloc (.cells #[.int .i64 n] 3)
 have hB:=(Below.refl w.heap.size w).alloc (Nat.le_refl _) (.cells #[.int .i64 n] 3)
 have hcell:(w.alloc (.cells #[.int .i64 n] 3)).cell? ⟨w.heap.size,0,none⟩=some (.int .i64 n):=by simp
 by_cases hn:n<1∨1024<n
 ·have HF:=Lib.hid (wErr_r (w:=l) hn)
  have HP:=Lib.hid (perm_no (w:=w.alloc (.cells #[.int .i64 n] 3)) n hn)
  clear hn
  go_enter Tryz.func56,Tryz.ntmps56
  go_wp2_with fail
  refine (HP.out).mono ?_
  rintro e w1 ⟨rfl,hw⟩
  subst hw
  go_wp2
  go_ret
  exact ⟨ret_ic HF.out.symm,hB⟩
 have HP:=Lib.hid (perm_yes (w:=w.alloc (.cells #[.int .i64 n] 3)) n hn)
 by_cases hl:1024<l.length
 ·have HF:=Lib.hid (wErr_l hn hl)
  clear hn
  go_enter Tryz.func56,Tryz.ntmps56
  go_wp2_with fail
  refine (HP.out).mono ?_
  rintro e w1 ⟨rfl,hw⟩
  subst hw
  go_wp2
  go_ret
  exact ⟨ret_ic HF.out.symm,hB⟩
 by_cases hb:∃x∈l,x<0∨n≤x
 ·have HF:=Lib.hid (wErr_i hn hl hb)
  have HC:=Lib.hid (cont_yes hS n hcell hb)
  clear hn hb
  go_enter Tryz.func56,Tryz.ntmps56
  go_wp2_with fail
  refine (HP.out).mono ?_
  rintro e w1 ⟨rfl,hw⟩
  subst hw
  go_wp2_with fail
  refine (HC.out).mono ?_
  rintro e w1 ⟨rfl,hw⟩
  subst hw
  go_wp2
  go_ret
  exact ⟨ret_ic HF.out.symm,hB⟩
 have HF:=Lib.hid (wErr_0 hn hl hb)
 have HC:=Lib.hid (cont_no hS n hcell hb)
 clear hn hb
 go_enter Tryz.func56,Tryz.ntmps56
 go_wp2_with fail
 refine (HP.out).mono ?_
 rintro e w1 ⟨rfl,hw⟩
 subst hw
 go_wp2_with fail
 refine (HC.out).mono ?_
 rintro e w1 ⟨rfl,hw⟩
 subst hw
 go_wp2
 go_ret
 exact ⟨ret_ic HF.out.symm,hB⟩
end
section
variable {M:Nat→Prop} {w:World} {a:Option Addr} {c:Nat}
end
def Marks (n:Nat) (l:List Int) (b:List Bool):Prop:=b.length=n∧∀t,t<n→b[t]? =some (decide ((t:Int)∈l))
theorem Marks.at {n:Nat} {l:List Int} {b:List Bool} (h:Marks n l b) {t:Nat} (ht:t<n) {x:Bool} (hx:b[t]? =some x):x=decide ((t:Int)∈l):=by
 have:=h.2 t ht
 rw [hx] at this
 simpa using this
theorem Marks.push {n:Nat} {l:List Int} {b:List Bool} (h:Marks n l b) {t:Nat} (ht:t<n):Marks n (l++[(t:Int)]) (b.set t true):=by
 refine ⟨by rw [List.length_set];exact h.1,fun s hs=> ?_⟩
 by_cases e:s=t
 ·subst e
  rw [List.getElem?_set_self (by rw [h.1];exact hs)]
  simp
 rw [List.getElem?_set_ne (by omega),h.2 s hs]
 congr 1
 rw [decide_eq_decide,List.mem_append,List.mem_singleton]
 exact ⟨.inl,fun h=>h.resolve_right (by omega)⟩
theorem Marks.init {n:Nat} {b:List Bool} (h:b=List.replicate n false) {t:Nat} (ht:t<n):Marks n [(t:Int)] (b.set t true):=by
 subst h
 refine ⟨by simp,fun s hs=> ?_⟩
 by_cases e:s=t
 ·subst e
  rw [List.getElem?_set_self (by simpa using hs)]
  simp
 rw [List.getElem?_set_ne (by omega),List.getElem?_replicate,if_pos hs]
 congr 1
 rw [eq_comm,decide_eq_false_iff_not,List.mem_singleton]
 omega
section
variable {M:Nat→Prop} {w:World} {an ao:Option Addr} {cn co:Nat} {m:Mach}
theorem reach_any (hm:Ma M w an cn ao co m):
    Calls Tryz.prog 118 #[maV m an cn ao co] w fun e w'=>
     ∃a c l,e= .returned (.slice a l.length c)∧Hid (l=m.reachOf)∧Sl (fun k=>k<w.heap.size) w' a c l∧Below w.heap.size w w':=by
 have HV:=Lib.hid (valid_any (hm.ext (Ext.alloc M w (.cells #[.int .i64 m.inputs,.int .i64 m.start,.slice an m.next.length cn,.slice ao m.out.length co] 24))))
 by_cases he:m.err=0
 ·have ok:=m.ok_of_err he
  have OK:=Lib.hid ok
  have he':(m.err !=0)=false:=by simp [he]
  have n1:=ok.n1
  have s0:=ok.s0
  have s1:=ok.s1
  have HE:=Lib.hid he
  clear he ok
  go_enter Tryz.func118,Tryz.ntmps118
  go_wp2_with (first|(go_at_call 33;refine (HV.out).mono ?_;rintro e w1 ⟨rfl,hb1⟩;have hbx1:∀o,w1.cell? ⟨w.heap.size,o,none⟩=_:=fun o=>hb1.cell (by simp))|(at_make;refine wpList_mk_b (B:=w.heap.size+1) (n:=m.next.length) rfl rfl Tryz.underlying205 info_bool rfl (by omega) ?_ ?_))
  ·have:=hb1.size;simpa using this
  intro g c b w2 hb hO hb2 hg
  have hsz1:w.heap.size+1≤w1.heap.size:=by have:=hb1.size;simpa using this
  have hB2:Below (w.heap.size+1) (w.alloc (.cells #[.int .i64 m.inputs,.int .i64 m.start,.slice an m.next.length cn,.slice ao m.out.length co] 24)) w2:=(hb1.mono (by simp)).trans (hb2.mono hsz1)
  have hbl:Hid (b.length=m.next.length):=by unfold Hid;rw [hb.out,List.length_replicate]
  clear hbx1 hb1 hb2
  have hbx2:∀o,w2.cell? ⟨w.heap.size,o,none⟩=_:=fun o=>hB2.cell (by simp)
  have hsb:m.start.toNat<b.length:=by have:=hbl.out;omega
  have hsb2:m.start<b.length:=by omega
  obtain ⟨g',x0,hg',hxc,hxf, -⟩:=hO.at_bool hsb
  obtain rfl:g=g':=by simpa using hg'
  have hglt:=(hO.lt g rfl).2
  have dgw:¬w.heap.size=g:=by omega
  have hst:∀(j o:Nat) (u:Value),(w2.setCell ⟨g,j,none⟩ u).cell? ⟨w.heap.size,o,none⟩=w2.cell? ⟨w.heap.size,o,none⟩:=fun j o u=>World.cell?_of_block (w:=w2) (Below.heap_setCell _ _ _ _ (by simp;omega))
  go_wp2
  have hO3:=(hO.set_bool rfl (show w.heap.size+1≤g by omega) true m.start.toNat).alloc (.cells #[.int .i64 m.start] 3)
  have hN3:Ow (g+1) (fun k=>g+1≤k) ((w2.setCell ⟨g,m.start.toNat,none⟩ (.bool true)).alloc (.cells #[.int .i64 m.start] 3)) 3 (.slice (some ⟨w2.heap.size,0,none⟩) 1 1) [m.start]:=by
   have:=Ow.one (B:=g+1) (M:=fun k=>g+1≤k) (w:=w2.setCell ⟨g,m.start.toNat,none⟩ (.bool true)) (T:=3) hm.start (by have:=hglt;simp;omega)
   simpa using this
  have hB3:Below (w.heap.size+1) (w.alloc (.cells #[.int .i64 m.inputs,.int .i64 m.start,.slice an m.next.length cn,.slice ao m.out.length co] 24)) ((w2.setCell ⟨g,m.start.toNat,none⟩ (.bool true)).alloc (.cells #[.int .i64 m.start] 3)):=by
   refine Below.alloc (hB2.setCell (by simp;omega) _) ?_ _
   have:=hB2.size
   simpa using this
  have hMk:Hid (Marks m.next.length (m.bfs 0) (b.set m.start.toNat true)):=by
   have:=Marks.init hb.out (show m.start.toNat<m.next.length by omega)
   rwa [Int.toNat_of_nonneg s0] at this
  clear hO hxc hxf hst hB2 hbx2
  go_loopw [4,5] (fun v i wr=>∃(k:Nat) (a':Option Addr) (c':Nat) (l:List Int) (bs:List Bool),k≤m.next.length∧i= .int .i64 k∧v= .slice a' l.length c'∧Hid (l=m.bfs k)∧Hid (Marks m.next.length l bs)∧Hid (b.length=bs.length)∧
   Ow (w.heap.size+1) (fun k=>w.heap.size+1≤k) wr 4 (.slice (some ⟨g,0,none⟩) b.length c) bs∧Ow (g+1) (fun k=>g+1≤k) wr 3 (.slice a' l.length c') l∧Below (w.heap.size+1) (w.alloc (.cells #[.int .i64 m.inputs,.int .i64 m.start,.slice an m.next.length cn,.slice ao m.out.length co] 24)) wr) (fun _ i _=>m.next.length-(intOf i).toNat)
  case atStart=>exact ⟨0,_,_,[m.start],_,by omega,rfl,rfl,rfl,hMk,by unfold Hid;rw [List.length_set],hO3,hN3,hB3⟩
  case round=>
   clear hO3 hN3 hB3 hMk
   obtain ⟨k,a',c',l,bs,hk,rfl,rfl,hl,hM,hbs,hO,hN,hB⟩:=hrel
   obtain ⟨wo,rfl⟩:∃wo:World,wo=wr:=⟨_,rfl⟩
   have hbx:∀o,wo.cell? ⟨w.heap.size,o,none⟩=_:=fun o=>hB.cell (by simp)
   have hsz:w.heap.size+1≤wo.heap.size:=by have:=hB.size;simpa using this
   have hsz2:w.heap.size<wo.heap.size:=by omega
   have hBw:Below w.heap.size w wo:=((Below.refl _ _).alloc (Nat.le_refl _) _).trans (hB.mono (by omega))
   have hll:l.length≤m.next.length:=by rw [hl.out];exact Mach.bfs_le OK.out k
   by_cases hlt:k<l.length
   ·obtain ⟨gn,x0,rfl,hxc, -,hx0, -⟩:=hN.at_int hlt
    have hxr:=(Mach.bfs_props OK.out k).2.1 x0 (by rw [←hl.out];exact List.mem_of_getElem? hx0.out)
    obtain ⟨x,rfl⟩:=Int.eq_ofNat_of_zero_le hxr.1
    have hxn:x<m.next.length:=by omega
    obtain ⟨bn,on,a1,r1,c1,rfl,hn1,hr1,hS1⟩:=hm.next.at_row hxn
    have hbnw:bn<w.heap.size:=hm.next.lt hxn
    replace hn1:=(hBw.cell (p:=⟨bn,on+x,none⟩) hbnw).trans hn1
    have hr1n:=hS1.le
    go_wp2
    refine wp_quiet_fast (by kernel_rfl) (by kernel_rfl) ?_
    repeat (first|go_big_quiet_step (fail)|quiet_step (fail))
    refine wpQuiet_nil ?_
    intro _ hw'
    obtain ⟨nq,hw''⟩:=hw'
    subst hw''
    go_wp2
    go_loopw [4,37] (fun v i w4=>∃(j:Nat) (a2:Option Addr) (c2:Nat) (l2:List Int) (bs2:List Bool),j≤r1.length∧i= .int .i64 j∧v= .slice a2 l2.length c2∧Hid (l2=visit l (r1.take j))∧Hid (Marks m.next.length l2 bs2)∧Hid (b.length=bs2.length)∧
     Ow (w.heap.size+1) (fun k=>w.heap.size+1≤k) w4 4 (.slice (some ⟨g,0,none⟩) b.length c) bs2∧Ow (g+1) (fun k=>g+1≤k) w4 3 (.slice a2 l2.length c2) l2∧Below (w.heap.size+1) (w.alloc (.cells #[.int .i64 m.inputs,.int .i64 m.start,.slice (some ⟨bn,on,none⟩) m.next.length cn,.slice ao m.out.length co] 24)) w4) (fun _ i _=>r1.length-(intOf i).toNat)
    case atStart=>exact ⟨0,_,_,l,bs,by omega,rfl,rfl,rfl,hM,hbs,hO.drewN _,hN.drewN _,bl_drewN hB _⟩
    case round=>
     clear hO hN hM hbs hxc hn1 hbx hB hBw hsz hsz2
     obtain ⟨j,a2,c2,l2,bs2,hj,rfl,rfl,hl2,hM,hbs,hO,hN,hB⟩:=hrel
     obtain ⟨w4,rfl⟩:∃w4:World,w4=wr:=⟨_,rfl⟩
     have hBw:Below w.heap.size w w4:=((Below.refl _ _).alloc (Nat.le_refl _) _).trans (hB.mono (by omega))
     have hS4:=hS1.below hBw
     have hglt:=(hO.lt g rfl).2
     by_cases hlj:j<r1.length
     ·obtain ⟨b3,o3,t0,rfl,htc,ht0, -⟩:=hS4.at_int hlj
      have htr:=Mach.row_range OK.out hxn (x:=t0) (by rw [getD_of_some hr1.out];exact List.mem_of_getElem? ht0.out)
      obtain ⟨t,rfl⟩:=Int.eq_ofNat_of_zero_le htr.1
      have htn:t<m.next.length:=by omega
      have htb:t<b.length:=by have:=hbl.out;omega
      have htb2:t<bs2.length:=by have:=hbs.out;omega
      obtain ⟨g',y,hg',hyc,hyf,hy⟩:=hO.at_bool' hbs.out htb2
      obtain rfl:g=g':=by simpa using hg'
      have hyd:Hid (y=decide ((t:Int)∈l2)):=hM.out.at htn hy.out
      have htk:Hid (r1.take (j+1)=r1.take j++[(t:Int)]):=by unfold Hid;rw [List.take_add_one,ht0.out];rfl
      have hl2n:l2.length≤m.next.length:=by
       have h1:=Mach.bfs_props OK.out k
       refine nodup_le _ _ (by rw [hl2.out,hl.out];exact visit_nodup _ _ h1.1) (fun z hz=> ?_)
       rw [hl2.out,hl.out,visit_mem] at hz
       rcases hz with hz|hz
       ·exact h1.2.1 z hz
       exact Mach.row_range OK.out hxn (by rw [getD_of_some hr1.out];exact List.mem_of_mem_take hz)
      cases y with
      |true=>
       have hin:Hid (visit l (r1.take (j+1))=l2):=by
        have:(t:Int)∈l2:=by simpa using hyd.out.symm
        unfold Hid
        rw [htk.out,visit_snoc,←hl2.out,if_pos this]
       go_wp2
       go_roundw
       case rel=>exact ⟨j+1,_,_,l2,bs2,by omega,by go_num,rfl,hin.out.symm,hM,hbs,hO,hN,hB⟩
       case measure=>simp [intOf];omega
      |false=>
       have hnin:Hid (visit l (r1.take (j+1))=l2++[(t:Int)]):=by
        have:¬(t:Int)∈l2:=by simpa using hyd.out.symm
        unfold Hid
        rw [htk.out,visit_snoc,←hl2.out,if_neg this]
       have hO5:=hO.set_bool hbs.out (show w.heap.size+1≤g by omega) true t
       have hN5:Ow (g+1) (fun k=>g+1≤k) (w4.setCell ⟨g,t,none⟩ (.bool true)) 3 (.slice a2 l2.length c2) l2:=hN.setOtherI (fun k hk=>by have:=(hN.lt k hk).1;simp;omega) _
       have hB5:=hB.setCell (p:=⟨g,t,none⟩) (show w.heap.size+1≤g by omega) (.bool true)
       have hs5:=hB.size
       have hti:Hid (i64 (t:Int)):=i64_of_nat (by omega)
       clear hO hN hB
       go_wp2_with (at_builtin;refine wpList_push_i rfl rfl Tryz.underlying49 info_int rfl rfl (hN5.alloc _) (by simp [go_sem]) hti.out (by omega) (by simp;omega) ?_)
       intro a6 c6 l6 w6 hl6 hN6 hb6
       have hO6:=(hO5.alloc (.cells #[.int .i64 (t:Int)] 3)).uptob hb6 (fun k hk=>by simp [Value.ownBlock] at hk;omega)
       have hB6:=(hB5.alloc (by simpa using hs5) (.cells #[.int .i64 (t:Int)] 3)).trans (hb6.mono (by omega))
       clear hb6 hO5 hN5 hB5
       go_wp2
       go_roundw
       case rel=>exact ⟨j+1,a6,c6,l6,bs2.set t true,by omega,by go_num,rfl,by unfold Hid;rw [hl6.out,hnin.out],by unfold Hid;rw [hl6.out];exact hM.out.push htn,by unfold Hid;rw [List.length_set];exact hbs.out,hO6,hN6,hB6⟩
       case measure=>simp [intOf];omega
     have hall : Hid (l2 = m.bfs (k + 1)) := by
      unfold Hid
      have hx0':=hx0.out
      rw [hl.out] at hx0'
      rw [Mach.bfs_succ,if_pos (by rw [←hl.out];exact hlt),getD_of_some hx0',Int.toNat_natCast,getD_of_some hr1.out,hl2.out,List.take_of_length_le (by omega),hl.out]
     go_wp2
     go_roundw
     case rel=>exact ⟨k+1,a2,c2,l2,bs2,by omega,by go_num,rfl,hall,hM,hbs,hO,hN,hB⟩
     case measure=>simp [intOf];omega
   have hst : Hid (l = m.reachOf) := by
    unfold Hid Mach.reachOf
    rw [if_pos HE.out,Mach.reach_of_stop (i:=k) (by rw [←hl.out];exact hlt) hk,←hl.out]
   go_wp2
   go_ret
   exact ⟨a',c',l,rfl,hst,hN.fresh (by omega),hBw⟩
 have he':(m.err !=0)=true:=by simp [he]
 have HE:=Lib.hid he
 clear he
 go_enter Tryz.func118,Tryz.ntmps118
 go_wp2_with (go_at_call 33;refine (HV.out).mono ?_;rintro e w1 ⟨rfl,hb1⟩)
 go_ret
 exact ⟨none,0,[],rfl,by unfold Hid Mach.reachOf;rw [if_neg HE.out],Sl.nil _ _ _ (by unfold maxLen;omega),((Below.refl _ _).alloc (Nat.le_refl _) _).trans (hb1.mono (by simp))⟩
end
section
variable {M M':Nat→Prop} {w:World} {an ao ac:Option Addr} {cn co cc:Nat} {m:Mach} {cls:List Int}
end
theorem ret2_int {x:Value} {a b:Int} (h:a=b):Ending.returned (.tuple #[x,.int .i64 a])= .returned (.tuple #[x,.int .i64 b]):=by rw [h]
section
variable {M:Nat→Prop} {w:World} {an ao ac:Option Addr} {cn co cc:Nat} {m:Mach}
end
end Go.Proofs.YtjagagpcjpcjjaaGreat
namespace Go.Proofs.YtjagagpcjpcjjaaGreat
theorem sgn_swap (x y:Int):sgn y x= -sgn x y:=by
 unfold sgn
 split<;>split<;>(try split)<;>omega
theorem sgn_zero {x y:Int} (h:sgn x y=0):x=y:=by
 unfold sgn at h
 split at h
 ·simp at h
 split at h
 ·simp at h
 omega
theorem lex_swap:∀(a b:List Int),lexW b a= -lexW a b
 |[],[]=>rfl
 |[],_::_=>rfl
 |_::_,[]=>rfl
 |x::a,y::b=>by
  simp only [lexW]
  by_cases h:x=y
  ·rw [if_pos h,if_pos h.symm];exact lex_swap a b
  rw [if_neg h,if_neg (Ne.symm h)];exact sgn_swap x y
theorem lex_same (a:List Int):lexW a a=0:=by
 induction a with
 |nil=>rfl
 |cons x a ih=>simp [lexW,ih]
theorem lex_zero:∀{a b:List Int},lexW a b=0→a=b
 |[],[],_=>rfl
 |[],_::_,h=>by simp [lexW] at h
 |_::_,[],h=>by simp [lexW] at h
 |x::a,y::b,h=>by
  simp only [lexW] at h
  by_cases e:x=y
  ·rw [if_pos e] at h;rw [e,lex_zero h]
  rw [if_neg e] at h;exact absurd (sgn_zero h) e
theorem sgn_neg {x y:Int}:sgn x y<0↔x<y:=by
 unfold sgn;split
 ·simp;omega
 split<;>simp<;>omega
theorem lex_trans:∀{a b c:List Int},lexW a b≤0→lexW b c≤0→lexW a c≤0∧(lexW a b<0→lexW a c<0)
 |[],b,[],h,h2=>by
  cases b with
  |nil=>simp [lexW]
  |cons y b=>simp [lexW] at h2
 |[],b,z::c,h,h2=>by simp [lexW]
 |x::a,[],c,h,h2=>by simp [lexW] at h
 |x::a,y::b,[],h,h2=>by simp [lexW] at h2
 |x::a,y::b,z::c,h,h2=>by
  simp only [lexW] at h h2 ⊢
  by_cases e:x=y
  ·subst e
   rw [if_pos rfl] at h ⊢
   by_cases e2:x=z
   ·rw [if_pos e2] at h2 ⊢
    exact lex_trans h h2
   rw [if_neg e2] at h2 ⊢
   have hr:=sgn_range x z
   have hz:sgn x z≠0:=fun h=>e2 (sgn_zero h)
   exact ⟨h2,fun _=>by omega⟩
  rw [if_neg e] at h ⊢
  have hr:=sgn_range x y
  have hz:sgn x y≠0:=fun h=>e (sgn_zero h)
  have h3:x<y:=sgn_neg.1 (by omega)
  have h4:x<z:=by
   by_cases e2:y=z
   ·omega
   rw [if_neg e2] at h2
   have hr:=sgn_range y z
   have hz:sgn y z≠0:=fun h=>e2 (sgn_zero h)
   have:=sgn_neg.1 (show sgn y z<0 by omega)
   omega
  rw [if_neg (by omega)]
  have:=sgn_neg.2 h4
  exact ⟨by omega,fun _=>this⟩
theorem cmp_swap (a b:List Int):cmpW b a= -cmpW a b:=by
 unfold cmpW
 by_cases h:a.length=b.length
 ·rw [if_pos h,if_pos h.symm,lex_swap]
 rw [if_neg h,if_neg (Ne.symm h),sgn_swap]
theorem cmp_same (a:List Int):cmpW a a=0:=by unfold cmpW;rw [if_pos rfl,lex_same]
theorem cmp_zero {a b:List Int} (h:cmpW a b=0):a=b:=by
 unfold cmpW at h
 split at h
 ·exact lex_zero h
 rename_i hl;have:=sgn_zero h;omega
theorem cmp_short {a b:List Int} (h:a.length<b.length):cmpW a b= -1:=by unfold cmpW;rw [if_neg (by omega),sgn_lt (by omega)]
theorem cmp_trans {a b c:List Int} (h:cmpW a b≤0) (h2:cmpW b c≤0):cmpW a c≤0∧(cmpW a b<0→cmpW a c<0):=by
 have key:∀{a b:List Int},cmpW a b≤0→a.length<b.length∨(a.length=b.length∧lexW a b≤0∧cmpW a b=lexW a b):=by
  intro a b h
  by_cases e:a.length=b.length
  ·right
   have e2:cmpW a b=lexW a b:=by unfold cmpW;rw [if_pos e]
   exact ⟨e,by omega,e2⟩
  left
  unfold cmpW at h
  rw [if_neg e] at h
  have hr:=sgn_range a.length b.length
  have hz:sgn (a.length:Int) b.length≠0:=fun h=>e (by have:=sgn_zero h;omega)
  have:=sgn_neg.1 (show sgn (a.length:Int) b.length<0 by omega)
  omega
 rcases key h with h1|⟨h1,h3,h4⟩
 ·have hl:a.length<c.length:=by rcases key h2 with h5|⟨h5,_,_⟩<;>omega
  rw [cmp_short hl];simp
 rcases key h2 with h5|⟨h5,h6,h7⟩
 ·rw [cmp_short (by omega)];simp
 have e2:cmpW a c=lexW a c:=by unfold cmpW;rw [if_pos (by omega)]
 rw [e2,h4]
 exact lex_trans h3 h6
theorem lex_prefix:∀{a b:List Int},b<+:a→0≤lexW a b
 |[],[],_=>by simp [lexW]
 |[],y::b,h=>by simp at h
 |x::a,[],_=>by simp [lexW]
 |x::a,y::b,h=>by
  rw [List.cons_prefix_cons] at h
  simp only [lexW]
  rw [if_pos h.1.symm]
  exact lex_prefix h.2
end Go.Proofs.YtjagagpcjpcjjaaGreat
namespace Go.Proofs.YtjagagpcjpcjjaaGreat
open Go.RowKit
abbrev Ox {α:Type} [GR α] (n0 B:Nat) (w:World) (T:TypeId) (v:Value) (l:List α):Prop:=Ow B (fun k=>v.ownBlock=some k∨k<n0) w T v l
section
variable {α:Type} [GR α] {n0 B:Nat} {w w':World} {T:TypeId} {v:Value} {l:List α} {a:Option Addr} {c:Nat}
theorem Ox.nil:Ox n0 B w T (.slice none 0 0) ([]:List α):=Ow.nil
theorem Ox.toSl (h:Ox n0 B w T (.slice a l.length c) l) (hB:n0≤B):Sl (fun k=>k<n0) w a c l:=
 (h.subM (M':=fun k=>k<n0) fun _ _ hm=> .inr hm).toSl fun k hk=>by have:=(h.lt k hk).1;omega
theorem Ox.later (h:Ox n0 B w T v l) (hb:Below w.heap.size w w'):Ox n0 B w' T v l:=Ow.below h hb
end
section
variable {P:Program} {w:World} {o:Oper} {a:Act} {ops:Array Oper} {rest:List Oper} {Q:Exit→Act→World→Prop} {β:Type} [GR β]
theorem wp_push_x {K:Act→World→Prop} {rows:List (List β)} {r:List β} {s x:Operand} {t e:TypeId} {n0 B:Nat} {v:Value} {g c:Nat} {ar:Option Addr} {cr:Nat} (hop:o.op= .call {callee:= .builtin .append,args:= #[s,x],argTypes:= #[t,t]})
    (ht:P.underlying t=some (.slice e)) (hi:(P.info? e).map (fun i=>(i.zero,i.size,i.bytes))=some (some (.slice none 0 0),1,24))
    (hs:a.eval s=v) (hx:a.eval x= .slice (some ⟨g,0,none⟩) 1 c) (hown:Ox n0 B w e v rows) (hnew:w.cell? ⟨g,0,none⟩=some (.slice ar r.length cr)) (hy:Sl (fun k=>v.ownBlock=some k∨k<n0) w ar cr r)
    (hlen:rows.length<1000000000000) (hB:B≤w.heap.size)
    (h:∀(a':Option Addr) (c':Nat) (l':List (List β)) (w':World),Hid (l'=rows++[r])→Ox n0 B w' e (.slice a' l'.length c') l'→Hid (∀k,(Value.slice a' l'.length c').ownBlock=some k→v.ownBlock=some k∨k=w.heap.size)→w.grownBy w' v.ownBlock→K (a.put o.dst (.slice a' l'.length c')) w'):o.wp P a w K Q:=by
 refine wp_push2 s x t hop e (.slice none 0 0) 1 24 ht hi rfl (by decide) B _ v rows hs rfl hown (fun k hk=> .inl hk) ⟨g,0,none⟩ c [.slice ar r.length cr] r hx (rep_slice hy) ?_ ?_ (by omega) (by unfold maxLen;omega) hB ?_
 ·intro j u hj
  match j,hj with
  |0,hj=>simp at hj;subst hj;simpa [Addr.add] using hnew
 ·intro u hu;simp at hu;subst hu;rfl
 intro a' c' l' w' h1 h2 h3 h4
 refine h a' c' l' w' h1 (h2.subM fun k hk hm=> ?_) (fun k hk=>(h3.out k hk).1) h4
 rcases hm with hm|hm
 ·rcases (h3.out k hm).1 with e|e
  ·exact .inl (.inl e)
  exact .inr e
 exact .inl (.inr hm)
theorem wpList_push_x {rows:List (List β)} {r:List β} {s x:Operand} {t e:TypeId} {n0 B:Nat} {v:Value} {g c:Nat} {ar:Option Addr} {cr:Nat} (hg:o.guard=none) (hop:o.op= .call {callee:= .builtin .append,args:= #[s,x],argTypes:= #[t,t]})
    (ht:P.underlying t=some (.slice e)) (hi:(P.info? e).map (fun i=>(i.zero,i.size,i.bytes))=some (some (.slice none 0 0),1,24))
    (hs:a.eval s=v) (hx:a.eval x= .slice (some ⟨g,0,none⟩) 1 c) (hown:Ox n0 B w e v rows) (hnew:w.cell? ⟨g,0,none⟩=some (.slice ar r.length cr)) (hy:Sl (fun k=>v.ownBlock=some k∨k<n0) w ar cr r)
    (hlen:rows.length<1000000000000) (hB:B≤w.heap.size)
    (h:∀(a':Option Addr) (c':Nat) (l':List (List β)) (w':World),Hid (l'=rows++[r])→Ox n0 B w' e (.slice a' l'.length c') l'→Hid (∀k,(Value.slice a' l'.length c').ownBlock=some k→v.ownBlock=some k∨k=w.heap.size)→w.grownBy w' v.ownBlock→
     wpList P ops Q rest (a.put o.dst (.slice a' l'.length c')) w'):wpList P ops Q (o::rest) a w:=
 wpList_plain hg fun _ hK=>wp_push_x hop ht hi hs hx hown hnew hy hlen hB fun a' c' l' w' h1 h2 h3 h4=>hK _ _ (h a' c' l' w' h1 h2 h3 h4)
end
structure Pc where
 s:Int
 word:List Int
 deriving DecidableEq
def covRow (L:List Pc) (w r:List Int):Nat→List Pc
 |0=>L
 |a+1=>if r.getD a 0∈(covRow L w r a).map Pc.s then covRow L w r a else covRow L w r a++[⟨r.getD a 0,w++[(a:Int)]⟩]
theorem covRow_hit {L:List Pc} {w r:List Int} {a:Nat} {t:Int} (h:r[a]? =some t) (hm:t∈(covRow L w r a).map Pc.s):covRow L w r (a+1)=covRow L w r a:=by
 have e:r.getD a 0=t:=by rw [List.getD_eq_getElem?_getD,h];rfl
 simp only [covRow];rw [e,if_pos hm]
theorem covRow_new {L:List Pc} {w r:List Int} {a:Nat} {t:Int} (h:r[a]? =some t) (hm:¬t∈(covRow L w r a).map Pc.s):covRow L w r (a+1)=covRow L w r a++[⟨t,w++[(a:Int)]⟩]:=by
 have e:r.getD a 0=t:=by rw [List.getD_eq_getElem?_getD,h];rfl
 simp only [covRow];rw [e,if_neg hm]
theorem covRow_prefix (L:List Pc) (w r:List Int):∀a,∃s,covRow L w r a=L++s
 |0=>⟨[],by simp [covRow]⟩
 |a+1=>by
  obtain ⟨s,hs⟩:=covRow_prefix L w r a
  simp only [covRow]
  split
  ·exact ⟨s,hs⟩
  exact ⟨s++[⟨r.getD a 0,w++[(a:Int)]⟩],by rw [hs,List.append_assoc]⟩
theorem covRow_states (L:List Pc) (w r:List Int):∀a,a≤r.length→(covRow L w r a).map Pc.s=visit (L.map Pc.s) (r.take a)
 |0,_=>by simp [covRow,visit]
 |a+1,h=>by
  have ih:=covRow_states L w r a (by omega)
  have hg:r[a]? =some r[a]:=List.getElem?_eq_getElem (by omega)
  rw [List.take_add_one,hg]
  simp only [Option.toList_some]
  rw [visit_snoc,←ih]
  by_cases hm:r[a]∈(covRow L w r a).map Pc.s
  ·rw [covRow_hit hg hm,if_pos hm]
  rw [covRow_new hg hm,if_neg hm];simp
theorem covRow_all {P:Pc→Prop} {L:List Pc} {w r:List Int} (h0:∀q∈L,P q) (h1:∀(a:Nat) t,r[a]? =some t→P ⟨t,w++[(a:Int)]⟩):∀a,a≤r.length→∀q∈covRow L w r a,P q
 |0,_=>h0
 |a+1,h=>by
  intro q hq
  have hg:r[a]? =some r[a]:=List.getElem?_eq_getElem (by omega)
  by_cases hm:r[a]∈(covRow L w r a).map Pc.s
  ·rw [covRow_hit hg hm] at hq;exact covRow_all h0 h1 a (by omega) q hq
  rw [covRow_new hg hm] at hq
  rcases List.mem_append.1 hq with hq|hq
  ·exact covRow_all h0 h1 a (by omega) q hq
  rw [List.mem_singleton.1 hq];exact h1 a _ hg
namespace Mach
variable (m:Mach)
def cov:Nat→List Pc
 |0=>[⟨m.start,[]⟩]
 |i+1=>if i<(cov i).length then covRow (cov i) ((cov i).getD i ⟨0,[]⟩).word (m.next.getD ((cov i).getD i ⟨0,[]⟩).s.toNat []) (m.next.getD ((cov i).getD i ⟨0,[]⟩).s.toNat []).length else cov i
def covW:List Pc:=m.cov m.next.length
variable {m}
theorem cov_states:∀i,(m.cov i).map Pc.s=m.bfs i
 |0=>rfl
 |i+1=>by
  have ih:=cov_states i
  have hl:(m.cov i).length=(m.bfs i).length:=by rw [←ih];simp
  rw [bfs_succ]
  simp only [cov]
  by_cases h:i<(m.cov i).length
  ·rw [if_pos h,if_pos (by omega),covRow_states _ _ _ _ (Nat.le_refl _),List.take_length,ih]
   have:((m.cov i).getD i ⟨0,[]⟩).s=(m.bfs i).getD i 0:=by
    rw [←ih,List.getD_eq_getElem?_getD,List.getD_eq_getElem?_getD,List.getElem?_map,List.getElem?_eq_getElem h];rfl
   rw [this]
  rw [if_neg h,if_neg (by omega),ih]
theorem cov_len (i:Nat):(m.cov i).length=(m.bfs i).length:=by rw [←cov_states i];simp
theorem cov_stop {i:Nat} (h:¬i<(m.cov i).length):∀j,i≤j→m.cov j=m.cov i:=by
 intro j hj
 induction j with
 | zero => obtain rfl : i = 0 := by omega
           rfl
 |succ j ih=>
  by_cases e:i=j+1
  ·rw [e]
  have:=ih (by omega)
  simp only [cov]
  rw [this,if_neg (by omega)]
theorem covW_of {i:Nat} (h:¬i<(m.cov i).length) (hi:i≤m.next.length):m.covW=m.cov i:=cov_stop h _ hi
theorem cov_all (ok:m.Ok):∀i,∀q∈m.cov i,0≤q.s∧q.s<m.next.length∧m.okS q.word∧q.word.length≤i∧m.endW m.start q.word=q.s
 |0=>by
  intro q hq
  obtain rfl:q=⟨m.start,[]⟩:=by simpa [cov] using hq
  exact ⟨ok.s0,ok.s1,fun y hy=>by simp at hy,by simp,rfl⟩
 |i+1=>by
  have ih:=cov_all ok i
  intro q hq
  simp only [cov] at hq
  by_cases h:i<(m.cov i).length
  ·rw [if_pos h] at hq
   have hp:(m.cov i).getD i ⟨0,[]⟩∈m.cov i:=by
    rw [List.getD_eq_getElem?_getD,List.getElem?_eq_getElem h];exact List.getElem_mem h
   obtain ⟨p0,p1,p2,p3,p4⟩:=ih _ hp
   generalize (m.cov i).getD i ⟨0,[]⟩=p at*
   have hrl:=ok.rn p.s.toNat (by omega)
   refine covRow_all (P:=fun q=>0≤q.s∧q.s<m.next.length∧m.okS q.word∧q.word.length≤i+1∧m.endW m.start q.word=q.s) (fun q hq=> ?_) (fun a t ht=> ?_) _ (Nat.le_refl _) q hq
   ·obtain ⟨h1,h2,h3,h4,h5⟩:=ih q hq
    exact ⟨h1,h2,h3,by omega,h5⟩
   have hal : a < (m.next.getD p.s.toNat []).length := by
    by_cases e:a<(m.next.getD p.s.toNat []).length
    ·exact e
    rw [List.getElem?_eq_none (by omega)] at ht;simp at ht
   have hr:=row_range ok (s:=p.s.toNat) (by omega) (List.mem_of_getElem? ht)
   refine ⟨hr.1,hr.2,fun y hy=> ?_,by simp;omega,?_⟩
   ·rcases List.mem_append.1 hy with hy|hy
    ·exact p2 y hy
    rw [List.mem_singleton.1 hy];omega
   rw [endW_snoc,p4]
   unfold nx
   rw [Int.toNat_natCast,List.getD_eq_getElem?_getD (l:=m.next.getD p.s.toNat []),ht];rfl
  rw [if_neg h] at hq
  obtain ⟨h1,h2,h3,h4,h5⟩:=ih q hq
  exact ⟨h1,h2,h3,by omega,h5⟩
end Mach
instance:GR Pc where
 sz:=2
 rep M w cs q:=(∃ad c,cs=[.int .i64 q.s,.slice ad q.word.length c]∧Sl M w ad c q.word)∧i64 q.s
 len h:=by obtain ⟨⟨ad,c,h,_⟩,_⟩:=h;rw [h];rfl
 ext e h:=by obtain ⟨⟨ad,c,h,hs⟩,h2⟩:=h;exact ⟨⟨ad,c,h,hs.ext e⟩,h2⟩
section
variable {N B:Nat} {w w':World} {T:TypeId} {v:Value} {a:Option Addr} {c:Nat} {l:List Pc}
theorem Ox.at_pc (h:Ox N B w T (.slice a l.length c) l) {j:Nat} {q:Pc} (hq:l[j]? =some q):
    ∃g ad cw,a=some ⟨g,0,none⟩∧w.cell? ⟨g,j*2,none⟩=some (.int .i64 q.s)∧w.cell? ⟨g,j*2+1,none⟩=some (.slice ad q.word.length cw)∧
     Sl (fun k=>(Value.slice a l.length c).ownBlock=some k∨k<N) w ad cw q.word∧Hid (i64 q.s)∧B≤g∧g<w.heap.size:=by
 have hj:j<l.length:=by
  by_cases e:j<l.length
  ·exact e
  rw [List.getElem?_eq_none (by omega)] at hq;simp at hq
 obtain ⟨g,rfl,hb,hg⟩:=ow_some h (by omega)
 obtain ⟨xs,h1,h2⟩:=h
 obtain ⟨⟨ad,cw,h3,h4⟩,h5⟩:=h2 j q hq
 have hx:∀i u,i<2→[Value.int .i64 q.s,.slice ad q.word.length cw][i]? =some u→w.cell? ⟨g,j*2+i,none⟩=some u:=by
  intro i u hi hu
  have hlt:j*2+i<l.length*2:=by omega
  have e:=h1.cellAt (j*2+i) hlt
  rw [e]
  rw [←h3,List.getElem?_take,if_pos (by exact hi),List.getElem?_drop] at hu
  exact hu
 exact ⟨g,ad,cw,rfl,hx 0 _ (by omega) rfl,hx 1 _ (by omega) rfl,h4,h5,hb,hg⟩
theorem Ox.one_pc {s:Int} (hs:i64 s) (hB:B≤w.heap.size):Ox N B (w.alloc (.cells #[.int .i64 s,.slice none 0 0] T)) T (.slice (some ⟨w.heap.size,0,none⟩) 1 1) [(⟨s,[]⟩:Pc)]:=by
 refine ⟨[.int .i64 s,.slice none 0 0],?_,fun j y hj=> ?_⟩
 ·exact World.ownsRow_lit w #[.int .i64 s,.slice none 0 0] 1 hB (by unfold maxLen;omega) (by simp [GR.sz])
 match j,hj with
 |0,hj=>simp at hj;subst hj;exact ⟨⟨none,0,rfl,Sl.nil _ _ _ (by unfold maxLen;omega)⟩,hs⟩
end
section
variable {P:Program} {w:World} {o:Oper} {a:Act} {ops:Array Oper} {rest:List Oper} {Q:Exit→Act→World→Prop}
theorem wpList_push_pc {l:List Pc} {s x:Operand} {t e:TypeId} {N B:Nat} {z:Value} {v:Value} {g c:Nat} {q:Pc} {ar:Option Addr} {cr:Nat} (hg:o.guard=none) (hop:o.op= .call {callee:= .builtin .append,args:= #[s,x],argTypes:= #[t,t]})
    (ht:P.underlying t=some (.slice e)) (hi:(P.info? e).map (fun i=>(i.zero,i.size,i.bytes))=some (some z,2,32)) (hzs:z.cells.size=2)
    (hs:a.eval s=v) (hx:a.eval x= .slice (some ⟨g,0,none⟩) 1 c) (hown:Ox N B w e v l)
    (hn0:w.cell? ⟨g,0,none⟩=some (.int .i64 q.s)) (hn1:w.cell? ⟨g,1,none⟩=some (.slice ar q.word.length cr)) (hy:Sl (fun k=>v.ownBlock=some k∨k<N) w ar cr q.word) (hs64:i64 q.s)
    (hlen:l.length<1000000000000) (hB:B≤w.heap.size)
    (h:∀(a':Option Addr) (c':Nat) (l':List Pc) (w':World),Hid (l'=l++[q])→Ox N B w' e (.slice a' l'.length c') l'→w.grownBy w' v.ownBlock→wpList P ops Q rest (a.put o.dst (.slice a' l'.length c')) w'):wpList P ops Q (o::rest) a w:=by
 refine wpList_push2 hg s x t hop e z 2 32 ht hi hzs (by decide) B _ v l hs rfl hown (fun k hk=> .inl hk) ⟨g,0,none⟩ c [.int .i64 q.s,.slice ar q.word.length cr] q hx ⟨⟨ar,cr,rfl,hy⟩,hs64⟩ ?_ ?_ (by omega) (by unfold maxLen;omega) hB ?_
 ·intro j u hj
  match j,hj with
  |0,hj=>simp at hj;subst hj;simpa [Addr.add] using hn0
  |1,hj=>simp at hj;subst hj;simpa [Addr.add] using hn1
  |j+2,hj=>simp at hj
 ·intro u hu;simp at hu;rcases hu with rfl|rfl<;>rfl
 intro a' c' l' w' h1 h2 h3 h4
 refine h a' c' l' w' h1 (h2.subM fun k _ hm=> ?_) h4
 rcases hm with hm|hm
 ·rcases (h3.out k hm).1 with e|e
  ·exact .inl (.inl e)
  exact .inr e
 exact .inl (.inr hm)
end
instance:GR Pl where
 sz:=3
 rep M w cs q:=(∃ad c,cs=[.int .i64 q.s,.int .i64 q.t,.slice ad q.word.length c]∧Sl M w ad c q.word)∧i64 q.s∧i64 q.t
 len h:=by obtain ⟨⟨ad,c,h,_⟩,_⟩:=h;rw [h];rfl
 ext e h:=by obtain ⟨⟨ad,c,h,hs⟩,h2⟩:=h;exact ⟨⟨ad,c,h,hs.ext e⟩,h2⟩
abbrev mayQ (N:Nat) (v:Value) (k:Nat):Prop:=v.ownBlock=some k∨k<N
abbrev Qu (N B:Nat) (w:World) (T:TypeId) (v:Value) (l:List Pl):Prop:=Ow B (mayQ N v) w T v l
section
variable {N B:Nat} {w w':World} {T:TypeId} {v:Value} {a:Option Addr} {c:Nat} {l:List Pl}
theorem Qu.at (h:Qu N B w T (.slice a l.length c) l) {j:Nat} {q:Pl} (hq:l[j]? =some q):
    ∃g ad cw,a=some ⟨g,0,none⟩∧w.cell? ⟨g,j*3,none⟩=some (.int .i64 q.s)∧w.cell? ⟨g,j*3+1,none⟩=some (.int .i64 q.t)∧w.cell? ⟨g,j*3+2,none⟩=some (.slice ad q.word.length cw)∧
     Sl (mayQ N (.slice a l.length c)) w ad cw q.word∧Hid (i64 q.s∧i64 q.t)∧B≤g∧g<w.heap.size:=by
 have hj:j<l.length:=by
  by_cases e:j<l.length
  ·exact e
  rw [List.getElem?_eq_none (by omega)] at hq;simp at hq
 obtain ⟨g,rfl,hb,hg⟩:=ow_some h (by omega)
 obtain ⟨xs,h1,h2⟩:=h
 obtain ⟨⟨ad,cw,h3,h4⟩,h5⟩:=h2 j q hq
 have hx:∀i u,i<3→[Value.int .i64 q.s,.int .i64 q.t,.slice ad q.word.length cw][i]? =some u→w.cell? ⟨g,j*3+i,none⟩=some u:=by
  intro i u hi hu
  have hlt:j*3+i<l.length*3:=by omega
  have e:=h1.cellAt (j*3+i) hlt
  rw [e]
  rw [←h3,List.getElem?_take,if_pos (by exact hi),List.getElem?_drop] at hu
  exact hu
 exact ⟨g,ad,cw,rfl,hx 0 _ (by omega) rfl,hx 1 _ (by omega) rfl,hx 2 _ (by omega) rfl,h4,h5,hb,hg⟩
theorem Qu.later (h:Qu N B w T v l) (hb:Below w.heap.size w w'):Qu N B w' T v l:=Ow.below h hb
theorem Qu.set (h:Qu N B w T v l) {p:Addr} (hp:p.block<N) (hB:N≤B) (u:Value):Qu N B (w.setCell p u) T v l:=
 h.setOther (.inr hp) (fun k hk=>by have:=(h.lt k hk).1;omega) u
theorem Qu.one {s t:Int} (hs:i64 s) (ht:i64 t) (hB:B≤w.heap.size):Qu N B (w.alloc (.cells #[.int .i64 s,.int .i64 t,.slice none 0 0] T)) T (.slice (some ⟨w.heap.size,0,none⟩) 1 1) [⟨s,t,[]⟩]:=by
 refine ⟨[.int .i64 s,.int .i64 t,.slice none 0 0],?_,fun j y hj=> ?_⟩
 ·exact World.ownsRow_lit w #[.int .i64 s,.int .i64 t,.slice none 0 0] 1 hB (by unfold maxLen;omega) (by simp [GR.sz])
 match j,hj with
 |0,hj=>simp at hj;subst hj;exact ⟨⟨none,0,rfl,Sl.nil _ _ _ (by unfold maxLen;omega)⟩,hs,ht⟩
end
section
variable {P:Program} {w:World} {o:Oper} {a:Act} {ops:Array Oper} {rest:List Oper} {Q:Exit→Act→World→Prop}
theorem wp_push_pl {K:Act→World→Prop} {l:List Pl} {s x:Operand} {t e:TypeId} {N B:Nat} {z:Value} {v:Value} {g c:Nat} {q:Pl} {ar:Option Addr} {cr:Nat} (hop:o.op= .call {callee:= .builtin .append,args:= #[s,x],argTypes:= #[t,t]})
    (ht:P.underlying t=some (.slice e)) (hi:(P.info? e).map (fun i=>(i.zero,i.size,i.bytes))=some (some z,3,40)) (hzs:z.cells.size=3)
    (hs:a.eval s=v) (hx:a.eval x= .slice (some ⟨g,0,none⟩) 1 c) (hown:Qu N B w e v l)
    (hn0:w.cell? ⟨g,0,none⟩=some (.int .i64 q.s)) (hn1:w.cell? ⟨g,1,none⟩=some (.int .i64 q.t)) (hn2:w.cell? ⟨g,2,none⟩=some (.slice ar q.word.length cr)) (hy:Sl (mayQ N v) w ar cr q.word) (hs64:i64 q.s) (ht64:i64 q.t)
    (hlen:l.length<1000000000000) (hB:B≤w.heap.size)
    (h:∀(a':Option Addr) (c':Nat) (l':List Pl) (w':World),Hid (l'=l++[q])→Qu N B w' e (.slice a' l'.length c') l'→Hid (∀k,(Value.slice a' l'.length c').ownBlock=some k→(v.ownBlock=some k∨k=w.heap.size)∧k<w'.heap.size)→
     w.grownBy w' v.ownBlock→K (a.put o.dst (.slice a' l'.length c')) w'):o.wp P a w K Q:=by
 refine wp_push2 s x t hop e z 3 40 ht hi hzs (by decide) B (mayQ N v) v l hs rfl hown (fun k hk=> .inl hk) ⟨g,0,none⟩ c [.int .i64 q.s,.int .i64 q.t,.slice ar q.word.length cr] q hx ⟨⟨ar,cr,rfl,hy⟩,hs64,ht64⟩ ?_ ?_ (by omega) (by unfold maxLen;omega) hB ?_
 ·intro j u hj
  match j,hj with
  |0,hj=>simp at hj;subst hj;simpa [Addr.add] using hn0
  |1,hj=>simp at hj;subst hj;simpa [Addr.add] using hn1
  |2,hj=>simp at hj;subst hj;simpa [Addr.add] using hn2
  |j+3,hj=>simp at hj
 ·intro u hu;simp at hu;rcases hu with rfl|rfl|rfl<;>rfl
 intro a' c' l' w' h1 h2 h3 h4
 refine h a' c' l' w' h1 (h2.ext (Ext.sub_only fun k _ hk=> ?_) fun _ _=>rfl) h3 h4
 rcases hk with hk|hk
 ·rcases (h3.out k hk).1 with h5|h5
  ·exact .inl (.inl h5)
  exact .inr h5
 exact .inl (.inr hk)
end
theorem info_bools:(Tryz.prog.info? 205).map (fun i=>(i.zero,i.size,i.bytes))=some (some (.slice none 0 0),1,24):=by kernel_rfl
section
variable {P:Program} {w:World} {ops:Array Oper} {rest:List Oper} {o:Oper} {a:Act} {Q:Exit→Act→World→Prop}
theorem wpList_mk_exact (hg:o.guard=none) (x y:Operand) (t:TypeId) (hop:o.op= .makeSlice t x y) (e:TypeId) (z:Value) (bytes:Nat) (ht:P.underlying t=some (.slice e))
    (hi:(P.info? e).map (fun i=>(i.zero,i.size,i.bytes))=some (some z,1,bytes)) (hzc:z.cells= #[z])
    (n:Nat) (hx:a.eval x= .int .i64 n) (hy:a.eval y= .int .i64 n) (hn:bytes*n≤281474976710656) (hn2:n≤maxLen)
    (h:wpList P ops Q rest (a.put o.dst (.slice (some ⟨w.heap.size,0,none⟩) n n)) (w.alloc (.cells (madeCells #[z] n) e))):wpList P ops Q (o::rest) a w:=by
 refine wpList_plain hg fun K hK=> ?_
 obtain ⟨i,hi1,hi2,hi3,hi4⟩:=info_parts hi
 have hn':(bytes:Int)*(n:Int)≤281474976710656:=by
  have h1:((bytes*n:Nat):Int)≤281474976710656:=by omega
  rwa [Int.natCast_mul] at h1
 have hn3:(n:Int)≤9223372036854775807:=by
  have h1:=hn2
  unfold maxLen at h1
  omega
 have hr:=run_make (P:=P) w t e i z ht hi1 hi2 .i64 .i64 n n (by omega) (Int.le_refl _) (by rw [hi4];exact hn') hn3
 rw [hzc,hi3] at hr
 simp only [Int.toNat_natCast,Nat.mul_one] at hr
 unfold Oper.wp
 simp only [execOp,hop,hx,hy,hr,Sem.run_bind,Result.andThen_ok,Sem.run_pure,Oper.upon]
 exact hK _ _ h
end
structure GridB (w:World) (g na nb k:Nat):Prop where
 size:w.heap.size=g+1+k
 outer:∃cur,w.heap[g]? =some (.cells cur 205 (0,0))∧na≤cur.size∧∀i,i<k→cur[i]? =some (.slice (some ⟨g+1+i,0,none⟩) nb nb)
 row:∀i,i<k→w.heap[g+1+i]? =some (.cells (madeCells #[.bool false] nb) 4 (0,0))
structure Grid (w:World) (g na nb:Nat) (K:Nat→Nat→Bool):Prop where
 outer:∀i,i<na→w.cell? ⟨g,i,none⟩=some (.slice (some ⟨g+1+i,0,none⟩) nb nb)
 row:∀i,i<na→∀j,j<nb→w.cell? ⟨g+1+i,j,none⟩=some (.bool (K i j))
 free:∀i,i<na→∀j,w.frozen? ⟨g+1+i,j,none⟩=false
section
variable {w w':World} {g na nb k:Nat} {K:Nat→Nat→Bool}
theorem GridB.init (w:World) (na nb:Nat):GridB (w.alloc (.cells (madeCells #[.slice none 0 0] na) 205)) w.heap.size na nb 0:=
 ⟨by simp,⟨_,heap_alloc_new w _,by rw [size_madeCells];simp,fun i hi=>by omega⟩,fun i hi=>by omega⟩
theorem GridB.step (h:GridB w g na nb k) (hk:k<na):GridB ((w.setCell ⟨g,k,none⟩ (.slice (some ⟨w.heap.size,0,none⟩) nb nb)).alloc (.cells (madeCells #[.bool false] nb) 4)) g na nb (k+1):=by
 obtain ⟨cur,h1,h2,h3⟩:=h.outer
 have hs:=h.size
 have hz:(w.setCell ⟨g,k,none⟩ (.slice (some ⟨w.heap.size,0,none⟩) nb nb)).heap.size=w.heap.size:=by simp [World.setCell]
 refine ⟨by rw [World.size_alloc,hz];omega,⟨_,(Below.heap_alloc _ _ _ (by rw [hz];omega)).trans (heap_setCell_same _ _ _ _ _ _ h1),by simpa using h2,fun i hi=> ?_⟩,fun i hi=> ?_⟩
 ·by_cases e:i=k
  ·subst e
   rw [Array.getElem?_setIfInBounds_self_of_lt (by omega),hs]
  rw [Array.getElem?_setIfInBounds_ne (by omega)]
  exact h3 i (by omega)
 by_cases e:i=k
 ·subst e
  have:=heap_alloc_new (w.setCell ⟨g,i,none⟩ (.slice (some ⟨w.heap.size,0,none⟩) nb nb)) (.cells (madeCells #[.bool false] nb) 4)
  rw [hz,hs] at this
  rw [←hs] at this ⊢
  exact this
 rw [Below.heap_alloc _ _ _ (by rw [hz];omega),Below.heap_setCell _ _ _ _ (by simp;omega)]
 exact h.row i (by omega)
theorem GridB.done (h:GridB w g na nb na):Grid w g na nb (fun _ _=>false):=by
 obtain ⟨cur,h1,h2,h3⟩:=h.outer
 refine ⟨fun i hi=> ?_,fun i hi j hj=> ?_,fun i hi j=> ?_⟩
 ·rw [cell_of_row _ _ _ _ _ _ h1];exact h3 i hi
 ·rw [cell_of_row _ _ _ _ _ _ (h.row i hi),←Array.getElem?_toList,toList_madeCells_one,List.getElem?_replicate,if_pos hj]
 exact frozen_of_row _ _ _ _ _ (h.row i hi)
theorem Grid.below {B:Nat} (h:Grid w g na nb K) (hb:Below B w w') (hN:g+1+na≤B):Grid w' g na nb K:=
 ⟨fun i hi=>(hb.cell (p:=⟨g,i,none⟩) (show g<B by omega)).trans (h.outer i hi),fun i hi j hj=>(hb.cell (p:=⟨g+1+i,j,none⟩) (show g+1+i<B by omega)).trans (h.row i hi j hj),
  fun i hi j=>(hb.frozen (p:=⟨g+1+i,j,none⟩) (show g+1+i<B by omega)).trans (h.free i hi j)⟩
theorem Grid.congr {K':Nat→Nat→Bool} (h:Grid w g na nb K) (he:∀i j,i<na→j<nb→K i j=K' i j):Grid w g na nb K':=
 ⟨h.outer,fun i hi j hj=>by rw [←he i j hi hj];exact h.row i hi j hj,h.free⟩
theorem Grid.drewN (h:Grid w g na nb K) (n:Nat):Grid (w.drewN n) g na nb K:=h.below (below_drewN (g+1+na) w n) (Nat.le_refl _)
theorem Grid.drew (h:Grid w g na nb K):Grid w.drew g na nb K:=h.below ((Below.refl (g+1+na) w).drew) (Nat.le_refl _)
theorem Grid.set (h:Grid w g na nb K) {s t:Nat} (hs:s<na) (ht:t<nb):Grid (w.setCell ⟨g+1+s,t,none⟩ (.bool true)) g na nb (fun i j=>if i=s∧j=t then true else K i j):=by
 refine ⟨fun i hi=> ?_,fun i hi j hj=> ?_,fun i hi j=> ?_⟩
 ·rw [World.cell?_setCell_other _ _ _ _ (by simp<;>omega)];exact h.outer i hi
 ·by_cases e:i=s∧j=t
  ·obtain ⟨rfl,rfl⟩:=e
   simp only [and_self,if_true]
   exact World.cell?_setCell_same _ _ _ (h.row i hi j hj)
  rw [World.cell?_setCell_other _ _ _ _ (by simp;omega),if_neg e];exact h.row i hi j hj
 rw [World.frozen?_setCell];exact h.free i hi j
end
end Go.Proofs.YtjagagpcjpcjjaaGreat
namespace Go.Proofs.YtjagagpcjpcjjaaGreat
def unB (n:Int):Nat→Int→Option (List Int)
 |0,m=>if m≤0 then some [] else none
 |f+1,m=>if m≤0 then some [] else (unB n f ((m-1)/n)).map (fun l=>(m-1)%n::l)
theorem unB_done {n m:Int} (h:m≤0) (f:Nat):unB n f m=some []:=by cases f<;>simp [unB,h]
def nxW (n:Int):List Int→Option (List Int)
 |[]=>none
 |x::xs=>match nxW n xs with
  |some ys=>some (x::ys)
  |none=>if x+1<n then some ((x+1)::List.replicate xs.length 0) else none
theorem nxW_app (n:Int) (a b:List Int):nxW n (a++b)=match nxW n b with|some ys=>some (a++ys)|none=>(nxW n a).map (fun r=>r++List.replicate b.length 0):=by
 induction a with
 |nil=>cases h:nxW n b<;>simp [nxW,h]
 |cons x a ih=>
  rw [List.cons_append,nxW,ih]
  cases h:nxW n b with
  |some ys=>simp
  |none=>
   simp only [nxW]
   cases h2:nxW n a with
   |some zs=>simp
   |none=>
    simp only [Option.map_none]
    split
    ·simp [List.replicate_append_replicate]
    rfl
def nextV (w:List Int) (n:Int):List Int:=if wErr w n≠0 then [] else match nxW n w with|some y=>y|none=>if w.length=1024 then [] else List.replicate (w.length+1) 0
def nextB (w:List Int) (n:Int):Bool:=if wErr w n≠0 then false else match nxW n w with|some _=>true|none=>decide (w.length≠1024)
theorem next_bad {w:List Int} {n:Int} (h:wErr w n≠0):nextV w n=[]∧nextB w n=false:=by unfold nextV nextB;rw [if_pos h,if_pos h];exact ⟨rfl,rfl⟩
theorem nx_hit {w:List Int} {n:Int} {k:Nat} {x:Int} (hx:w[k]? =some x) (h:nxW n (w.drop (k+1))=none) (hlt:x+1<n):
    nxW n w=some ((w.take (k+1)++List.replicate (w.length-(k+1)) 0).set k (x+1)):=by
 have hk:k<w.length:=by
  by_cases e:k<w.length
  ·exact e
  rw [List.getElem?_eq_none (by omega)] at hx;simp at hx
 have e1:w=w.take k++(x::w.drop (k+1)):=by
  conv=>lhs;rw [←List.take_append_drop k w]
  rw [List.drop_eq_getElem_cons hk]
  rw [List.getElem?_eq_getElem hk] at hx
  rw [show w[k]=x by simpa using hx]
 have e2:nxW n (x::w.drop (k+1))=some ((x+1)::List.replicate (w.length-(k+1)) 0):=by
  simp only [nxW,h]
  rw [if_pos hlt,List.length_drop]
 conv=>lhs;rw [e1]
 rw [nxW_app,e2]
 simp only
 congr 1
 rw [List.take_add_one,hx,Option.toList_some,List.append_assoc,List.set_append]
 rw [if_neg (by simp;omega)]
 congr 1
 have:k-(w.take k).length=0:=by simp;omega
 rw [this];rfl
theorem nx_carry {w:List Int} {n:Int} {k:Nat} {x:Int} (hx:w[k]? =some x) (h:nxW n (w.drop (k+1))=none) (hlt:¬x+1<n):nxW n (w.drop k)=none:=by
 have hk:k<w.length:=by
  by_cases e:k<w.length
  ·exact e
  rw [List.getElem?_eq_none (by omega)] at hx;simp at hx
 rw [List.getElem?_eq_getElem hk] at hx
 rw [List.drop_eq_getElem_cons hk,show w[k]=x by simpa using hx]
 simp only [nxW,h]
 rw [if_neg hlt]
theorem nx_row {w:List Int} {k:Nat} {x:Int} (hx:w[k]? =some x):(w.take (k+1)++List.replicate (w.length-(k+1)) 0).set k 0=w.take k++List.replicate (w.length-k) 0:=by
 have hk:k<w.length:=by
  by_cases e:k<w.length
  ·exact e
  rw [List.getElem?_eq_none (by omega)] at hx;simp at hx
 rw [List.take_add_one,hx,Option.toList_some,List.append_assoc,List.set_append]
 rw [if_neg (by simp;omega)]
 have:k-(w.take k).length=0:=by simp;omega
 rw [this,List.singleton_append,List.set_cons_zero]
 obtain ⟨d,hd⟩:∃d,w.length-k=d+1:=⟨w.length-k-1,by omega⟩
 have hd2:w.length-(k+1)=d:=by omega
 rw [hd,hd2,List.replicate_succ]
theorem nx_at {w:List Int} {k:Nat} {x:Int} (hx:w[k]? =some x):(w.take (k+1)++List.replicate (w.length-(k+1)) 0)[k]? =some x:=by
 have hk:k<w.length:=by
  by_cases e:k<w.length
  ·exact e
  rw [List.getElem?_eq_none (by omega)] at hx;simp at hx
 rw [List.getElem?_append_left (by simp;omega),List.getElem?_take,if_pos (by omega),hx]
theorem nx_len {w:List Int} {k:Nat} (hk:k≤w.length):(w.take k++List.replicate (w.length-k) 0).length=w.length:=by simp;omega
theorem next_hit {w:List Int} {n:Int} {y:List Int} (h:wErr w n=0) (hn:nxW n w=some y):nextV w n=y∧nextB w n=true:=by
 have hh:¬wErr w n≠0:=by simpa using h
 simp only [nextV,nextB,if_neg hh,hn];exact ⟨trivial,trivial⟩
theorem next_full {w:List Int} {n:Int} (h:wErr w n=0) (hn:nxW n w=none) (hl:w.length=1024):nextV w n=[]∧nextB w n=false:=by
 have hh:¬wErr w n≠0:=by simpa using h
 simp only [nextV,nextB,if_neg hh,hn,hl];simp
theorem next_longer {w:List Int} {n:Int} (h:wErr w n=0) (hn:nxW n w=none) (hl:w.length≠1024):nextV w n=List.replicate w.length 0++[0]∧nextB w n=true:=by
 have hh:¬wErr w n≠0:=by simpa using h
 simp only [nextV,nextB,if_neg hh,hn,if_neg hl];simp [hl,List.replicate_succ']
end Go.Proofs.YtjagagpcjpcjjaaGreat
namespace Go.Proofs.YtjagagpcjpcjjaaGreat
open Go.RowKit
theorem wErr_zero {w:List Int} {n:Int} (h:wErr w n=0):1≤n∧n≤1024∧w.length≤1024∧∀x∈w,0≤x∧x<n:=by
 unfold wErr at h
 split at h
 ·simp at h
 rename_i h1
 split at h
 ·simp at h
 rename_i h2
 split at h
 ·simp at h
 rename_i h3
 refine ⟨by omega,by omega,by omega,fun x hx=> ?_⟩
 have:¬(x<0∨n≤x):=fun e=>h3 ⟨x,hx,e⟩
 omega
section
variable {M:Nat→Prop} {w:World} {a:Option Addr} {c:Nat}
end
end Go.Proofs.YtjagagpcjpcjjaaGreat
namespace Go.Proofs.YtjagagpcjpcjjaaGreat
def okW (n:Int) (w:List Int):Prop:=∀x∈w,0≤x∧x<n
def valA (n:Int):Int→List Int→Int
 |r,[]=>r
 |r,x::xs=>valA n (r*n+x+1) xs
theorem valA_app (n:Int):∀(a:List Int) (r:Int) (b:List Int),valA n r (a++b)=valA n (valA n r a) b
 |[],_,_=>rfl
 |x::a,r,b=>by rw [List.cons_append,valA,valA,valA_app n a]
theorem okW_cons {n x:Int} {w:List Int} (h:okW n (x::w)):(0≤x∧x<n)∧okW n w:=⟨h x (by simp),fun y hy=>h y (by simp [hy])⟩
theorem okW_app {n:Int} {a b:List Int} (h:okW n (a++b)):okW n a∧okW n b:=⟨fun y hy=>h y (by simp [hy]),fun y hy=>h y (by simp [hy])⟩
theorem valA_ge {n:Int} (hn:1≤n):∀(w:List Int) (r:Int),0≤r→okW n w→r≤valA n r w
 |[],r,_,_=>Int.le_refl _
 |x::w,r,hr,h=>by
  obtain ⟨⟨h1,_⟩,h2⟩:=okW_cons h
  have e:r≤r*n:=by
   have:=Int.mul_le_mul_of_nonneg_left hn hr
   rwa [Int.mul_one] at this
  have:=valA_ge hn w (r*n+x+1) (by omega) h2
  rw [valA];omega
theorem valA_lt {n:Int} (hn:1≤n):∀(a b:List Int) (r s:Int),a.length=b.length→okW n a→okW n b→r<s→valA n r a<valA n s b
 |[],[],r,s,_,_,_,h=>h
 |x::a,y::b,r,s,hl,ha,hb,h=>by
  obtain ⟨⟨_,h1⟩,ha⟩:=okW_cons ha
  obtain ⟨⟨h2,_⟩,hb⟩:=okW_cons hb
  have e:(r+1)*n≤s*n:=Int.mul_le_mul_of_nonneg_right (by omega) (by omega)
  rw [Int.add_mul,Int.one_mul] at e
  exact valA_lt hn a b _ _ (by simpa using hl) ha hb (by omega)
 |[],_::_,_,_,hl,_,_,_=>by simp at hl
 |_::_,[],_,_,hl,_,_,_=>by simp at hl
theorem okW_zero {n:Int} (hn:1≤n) (k:Nat):okW n (List.replicate k 0):=fun y hy=>by
 obtain ⟨_,rfl⟩:=List.mem_replicate.1 hy
 omega
theorem nx_none {n:Int}:∀(w:List Int) (r:Int),okW n w→nxW n w=none→valA n r w+1=valA n (r+1) (List.replicate w.length 0)
 |[],r,_,_=>rfl
 |x::w,r,h,hn=>by
  obtain ⟨⟨h1,h2⟩,hw⟩:=okW_cons h
  simp only [nxW] at hn
  split at hn
  ·simp at hn
  rename_i hn2
  split at hn
  ·simp at hn
  rename_i hx
  have e:x=n-1:=by omega
  rw [valA,nx_none w _ hw hn2,List.length_cons,List.replicate_succ,valA]
  congr 1
  rw [Int.add_mul,Int.one_mul]
  omega
theorem nx_some {n:Int}:∀(w:List Int) (r:Int) (y:List Int),okW n w→nxW n w=some y→valA n r y=valA n r w+1
 |[],r,y,_,h=>by simp [nxW] at h
 |x::w,r,y,h,hn=>by
  obtain ⟨⟨h1,h2⟩,hw⟩:=okW_cons h
  simp only [nxW] at hn
  split at hn
  ·rename_i ys hys
   obtain rfl:x::ys=y:=by simpa using hn
   rw [valA,valA,nx_some w _ ys hw hys]
  rename_i hn2
  split at hn
  ·rename_i hx
   obtain rfl:(x+1)::List.replicate w.length 0=y:=by simpa using hn
   rw [valA,valA,nx_none w _ hw hn2]
   congr 1
   omega
  simp at hn
theorem nx_ok {n:Int} (hn0:1≤n):∀(w:List Int) (y:List Int),okW n w→nxW n w=some y→okW n y∧y.length=w.length∧lexW w y= -1
 |[],y,_,h=>by simp [nxW] at h
 |x::w,y,h,hn=>by
  obtain ⟨⟨h1,h2⟩,hw⟩:=okW_cons h
  simp only [nxW] at hn
  split at hn
  ·rename_i ys hys
   obtain rfl:x::ys=y:=by simpa using hn
   obtain ⟨h3,h4,h5⟩:=nx_ok hn0 w ys hw hys
   refine ⟨fun z hz=> ?_,by simp [h4],by simp [lexW,h5]⟩
   rcases List.mem_cons.1 hz with rfl|hz
   ·omega
   exact h3 z hz
  split at hn
  ·rename_i hx
   obtain rfl:(x+1)::List.replicate w.length 0=y:=by simpa using hn
   refine ⟨fun z hz=> ?_,by simp,?_⟩
   ·rcases List.mem_cons.1 hz with rfl|hz
    ·omega
    exact okW_zero hn0 _ z hz
   simp only [lexW]
   rw [if_neg (by omega),sgn_lt (by omega)]
  simp at hn
theorem okW_of {w:List Int} {n:Int} (h:wErr w n=0):1≤n∧n≤1024∧w.length≤1024∧okW n w:=wErr_zero h
theorem wErr_of {w:List Int} {n:Int} (h1:1≤n) (h2:n≤1024) (h3:w.length≤1024) (h:okW n w):wErr w n=0:=by
 refine wErr_0 (by omega) (by omega) ?_
 rintro ⟨x,hx,hb⟩
 have:=h x hx
 omega
theorem un_val {n:Int} (hn:1≤n):∀(k f:Nat) (w:List Int),w.length=k→okW n w→k≤f→unB n f (valA n 0 w)=some w.reverse:=by
 intro k
 induction k with
 |zero=>
  intro f w hl _ _
  obtain rfl:=List.length_eq_zero_iff.1 hl
  exact unB_done (by simp [valA]) f
 |succ k ih=>
  intro f w hl hw hf
  obtain ⟨v,x,rfl⟩:∃v x,w=v++[x]:=⟨w.dropLast,w.getLast (by intro e;simp [e] at hl),(List.dropLast_concat_getLast _).symm⟩
  obtain ⟨hv,hx⟩:=okW_app hw
  obtain ⟨x0,x1⟩:=hx x (by simp)
  obtain ⟨g,rfl⟩:∃g,f=g+1:=⟨f-1,by omega⟩
  have hr:0≤valA n 0 v:=valA_ge hn _ 0 (by omega) hv
  have hr2:0≤valA n 0 v*n:=Int.mul_nonneg hr (by omega)
  have e:valA n 0 (v++[x])=valA n 0 v*n+x+1:=by rw [valA_app];rfl
  have e2:valA n 0 v*n+x+1-1=x+valA n 0 v*n:=by omega
  rw [e,unB,if_neg (by omega),e2,Int.add_mul_ediv_right _ _ (by omega),Int.ediv_eq_zero_of_lt x0 x1,Int.zero_add,Int.add_mul_emod_self_right,Int.emod_eq_of_lt x0 x1,ih g v (by simpa using hl) hv (by omega)]
  simp
theorem len_val {n:Int} (hn:1≤n) {a b:List Int} (hl:a.length<b.length) (ha:okW n a) (hb:okW n b):valA n 0 a<valA n 0 b:=by
 obtain ⟨b1,b2,rfl,h2⟩:∃b1 b2,b=b1++b2∧b2.length=a.length:=⟨b.take (b.length-a.length),b.drop (b.length-a.length),(List.take_append_drop _ _).symm,by simp;omega⟩
 obtain ⟨hb1,hb2⟩:=okW_app hb
 rw [valA_app]
 refine valA_lt hn a b2 _ _ h2.symm ha hb2 ?_
 cases b1 with
 |nil=>simp at hl;omega
 |cons y b1=>
  obtain ⟨⟨y0,_⟩,hb1⟩:=okW_cons hb1
  have:=valA_ge hn b1 (0*n+y+1) (by omega) hb1
  rw [valA];omega
end Go.Proofs.YtjagagpcjpcjjaaGreat
namespace Go.Proofs.YtjagagpcjpcjjaaGreat
open Go.RowKit
section
variable {M:Nat→Prop} {w:World} {a b:Option Addr} {c d:Nat}
end
abbrev mayT (N:Nat) (v:Value) (k:Nat):Prop:=v.ownBlock=some k∨k<N
abbrev Qt (N B:Nat) (w:World) (T:TypeId) (v:Value) (l:List Tr):Prop:=Ow B (mayT N v) w T v l
section
variable {N B:Nat} {w w':World} {T:TypeId} {v:Value} {a:Option Addr} {c:Nat} {l:List Tr}
theorem Qt.later (h:Qt N B w T v l) (hb:Below w.heap.size w w'):Qt N B w' T v l:=Ow.below h hb
theorem Qt.set (h:Qt N B w T v l) {p:Addr} (hp:p.block<N) (hB:N≤B) (u:Value):Qt N B (w.setCell p u) T v l:=
 h.setOther (.inr hp) (fun k hk=>by have:=(h.lt k hk).1;omega) u
theorem Qt.sl (h:Qt N B w T (.slice a l.length c) l) (hB:N≤B):Sl (fun k=>k<N) w a c l:=
 (Ow.ext h (Ext.sub_only fun _ _ hk=> .inr hk) fun _ _=>rfl).toSl fun k hk hlt=>by have:=(h.lt k hk).1;omega
end
abbrev st2 (w:World) (g:Nat) (y0 y1:Value):World:=(w.setCell ⟨g,0,none⟩ y0).setCell ⟨g,1,none⟩ y1
section
variable {B g:Nat} {a w:World} {y0 y1 x0 x1:Value} {T:TypeId}
theorem bel_st2 (h:Below B a w) (hg:B≤g):Below B a (st2 w g y0 y1):=(h.setCell (p:=⟨g,0,none⟩) hg y0).setCell (p:=⟨g,1,none⟩) hg y1
theorem Sl.st2 {α:Type} [GR α] {X n:Nat} {ad:Option Addr} {c:Nat} {l:List α} (h:Sl (fun k=>k<X) w ad c l) (hg:g<X) (hn:n≤X):Sl (fun k=>k<n) (st2 w g y0 y1) ad c l:=
 h.ext ((Ext.setCell w (p:=⟨g,0,none⟩) hg _).trans ((Ext.setCell _ (p:=⟨g,1,none⟩) hg _).trans (Ext.sub_only fun _ _ hk=>Nat.lt_of_lt_of_le hk hn)))
theorem set2 (h:w.heap[g]? =some (.cells #[x0,x1] T (0,0))):(st2 w g y0 y1).heap[g]? =some (.cells #[y0,y1] T (0,0)):=by
 show ((w.setCell ⟨g,0,none⟩ y0).setCell ⟨g,1,none⟩ y1).heap[g]? =_
 rw [heap_setCell_same _ _ _ _ _ _ (heap_setCell_same _ _ _ _ _ _ h)]
 rfl
theorem cells2 (h:w.heap[g]? =some (.cells #[y0,y1] T (0,0))):(w.cell? ⟨g,0,none⟩=some y0∧w.cell? ⟨g,1,none⟩=some y1)∧∀o,w.frozen? ⟨g,o,none⟩=false:=
 ⟨⟨by rw [cell_of_row _ _ _ _ _ _ h];rfl,by rw [cell_of_row _ _ _ _ _ _ h];rfl⟩,fun o=>frozen_of_row _ _ _ _ _ h⟩
end
section
variable {P:Program} {w:World} {o:Oper} {a:Act} {ops:Array Oper} {rest:List Oper} {Q:Exit→Act→World→Prop}
theorem wp_push_tr {K:Act→World→Prop} {l:List Tr} {s x:Operand} {t e:TypeId} {N B:Nat} {z:Value} {v:Value} {g c:Nat} {q:Tr} {a1 a2:Option Addr} {c1 c2:Nat} (hop:o.op= .call {callee:= .builtin .append,args:= #[s,x],argTypes:= #[t,t]})
    (ht:P.underlying t=some (.slice e)) (hi:(P.info? e).map (fun i=>(i.zero,i.size,i.bytes))=some (some z,2,48)) (hzs:z.cells.size=2)
    (hs:a.eval s=v) (hx:a.eval x= .slice (some ⟨g,0,none⟩) 1 c) (hown:Qt N B w e v l)
    (hn0:w.cell? ⟨g,0,none⟩=some (.slice a1 q.inn.length c1)) (hn1:w.cell? ⟨g,1,none⟩=some (.slice a2 q.out.length c2)) (hy1:Sl (mayT N v) w a1 c1 q.inn) (hy2:Sl (mayT N v) w a2 c2 q.out)
    (hlen:l.length<1000000000000) (hB:B≤w.heap.size)
    (h:∀(a':Option Addr) (c':Nat) (l':List Tr) (w':World),Hid (l'=l++[q])→Qt N B w' e (.slice a' l'.length c') l'→Hid (∀k,(Value.slice a' l'.length c').ownBlock=some k→(v.ownBlock=some k∨k=w.heap.size)∧k<w'.heap.size)→
     w.grownBy w' v.ownBlock→K (a.put o.dst (.slice a' l'.length c')) w'):o.wp P a w K Q:=by
 refine wp_push2 s x t hop e z 2 48 ht hi hzs (by decide) B (mayT N v) v l hs rfl hown (fun k hk=> .inl hk) ⟨g,0,none⟩ c [.slice a1 q.inn.length c1,.slice a2 q.out.length c2] q hx ⟨a1,c1,a2,c2,rfl,hy1,hy2⟩ ?_ ?_ (by omega) (by unfold maxLen;omega) hB ?_
 ·intro j u hj
  match j,hj with
  |0,hj=>simp at hj;subst hj;simpa [Addr.add] using hn0
  |1,hj=>simp at hj;subst hj;simpa [Addr.add] using hn1
  |j+2,hj=>simp at hj
 ·intro u hu;simp at hu;rcases hu with rfl|rfl<;>rfl
 intro a' c' l' w' h1 h2 h3 h4
 refine h a' c' l' w' h1 (h2.ext (Ext.sub_only fun k _ hk=> ?_) fun _ _=>rfl) h3 h4
 rcases hk with hk|hk
 ·rcases (h3.out k hk).1 with h5|h5
  ·exact .inl (.inl h5)
  exact .inr h5
 exact .inl (.inr hk)
theorem wpList_push_tr {l:List Tr} {s x:Operand} {t e:TypeId} {N B:Nat} {z:Value} {v:Value} {g c:Nat} {q:Tr} {a1 a2:Option Addr} {c1 c2:Nat} (hg:o.guard=none) (hop:o.op= .call {callee:= .builtin .append,args:= #[s,x],argTypes:= #[t,t]})
    (ht:P.underlying t=some (.slice e)) (hi:(P.info? e).map (fun i=>(i.zero,i.size,i.bytes))=some (some z,2,48)) (hzs:z.cells.size=2)
    (hs:a.eval s=v) (hx:a.eval x= .slice (some ⟨g,0,none⟩) 1 c) (hown:Qt N B w e v l)
    (hn0:w.cell? ⟨g,0,none⟩=some (.slice a1 q.inn.length c1)) (hn1:w.cell? ⟨g,1,none⟩=some (.slice a2 q.out.length c2)) (hy1:Sl (mayT N v) w a1 c1 q.inn) (hy2:Sl (mayT N v) w a2 c2 q.out)
    (hlen:l.length<1000000000000) (hB:B≤w.heap.size)
    (h:∀(a':Option Addr) (c':Nat) (l':List Tr) (w':World),Hid (l'=l++[q])→Qt N B w' e (.slice a' l'.length c') l'→Hid (∀k,(Value.slice a' l'.length c').ownBlock=some k→(v.ownBlock=some k∨k=w.heap.size)∧k<w'.heap.size)→
     w.grownBy w' v.ownBlock→wpList P ops Q rest (a.put o.dst (.slice a' l'.length c')) w'):wpList P ops Q (o::rest) a w:=
 wpList_plain hg fun _ hK=>wp_push_tr hop ht hi hzs hs hx hown hn0 hn1 hy1 hy2 hlen hB fun a' c' l' w' h2 h3 h4 h5=>hK _ _ (h a' c' l' w' h2 h3 h4 h5)
end
theorem info_trace:(Tryz.prog.info? 73).map (fun i=>(i.zero,i.size,i.bytes))=some (some (.agg #[.slice none 0 0,.slice none 0 0]),2,48):=by kernel_rfl
end Go.Proofs.YtjagagpcjpcjjaaGreat
