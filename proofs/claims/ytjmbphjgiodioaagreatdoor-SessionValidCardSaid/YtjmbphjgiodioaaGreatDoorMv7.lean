/- Several texts, one behind the other. Conditions: as each of them says. -/
import Derived.Test.YtjmbphjgiodioaaGreatDoorMv4
import Derived.Test.YtjmbphjgiodioaaGreatDoorMv2
import Derived.Test.YtjmbphjgiodioaaGreatDoorMv1
import Derived.Laws.OwnMore
import Derived.Laws.MakeOwn
set_option maxRecDepth 100000
set_option maxHeartbeats 32000000
namespace Go.Proofs.YtjmbphjgiodioaaGreatDoor
open Go.RowKit
def Ow {α:Type} [GR α] (B:Nat) (M:Nat→Prop) (w:World) (T:TypeId) (v:Value) (l:List α):Prop:=
 ∃xs,w.ownsRow B T (GR.sz α) v l.length xs∧∀j x,l[j]? =some x→GR.rep M w ((xs.drop (j*GR.sz α)).take (GR.sz α)) x
section
variable {α:Type} [GR α] {B:Nat} {M M':Nat→Prop} {w w':World} {T:TypeId} {v v':Value} {l:List α} {a:Option Addr} {c:Nat}
theorem Ow.nil:Ow B M w T (.slice none 0 0) ([]:List α):=⟨[],World.ownsRow_nil _ _ _ _,fun j x h=>by simp at h⟩
theorem Ow.shape (h:Ow B M w T v l):∃a c,v= .slice a l.length c∧l.length≤c∧c≤maxLen:=by
 obtain ⟨xs,⟨_,h2⟩,_⟩:=h
 rcases h2 with ⟨rfl,h0⟩|⟨g,cap,cur,rfl,_,_,h3,h4,_⟩
 ·exact ⟨none,0,by rw [h0],by omega,by unfold maxLen;omega⟩
 exact ⟨_,_,rfl,h3,h4⟩
theorem Ow.le (h:Ow B M w T v l):l.length≤9223372036854775807:=by
 obtain ⟨a,c,_,h1,h2⟩:=h.shape
 have:=Nat.le_trans h1 h2
 unfold maxLen at this
 exact this
theorem Ow.lt (h:Ow B M w T v l):∀k,v.ownBlock=some k→B≤k∧k<w.heap.size:=by
 obtain ⟨xs,h1,_⟩:=h
 exact h1.lt
theorem ownsRow_same {n size:Nat} {xs:List Value} (h:w.ownsRow B T size v n xs) (hb:∀k,v.ownBlock=some k→w'.heap[k]? =w.heap[k]?):w'.ownsRow B T size v n xs:=by
 refine ⟨h.1,?_⟩
 rcases h.2 with h2|⟨g,cap,cur,rfl,h3,h4,h5⟩
 ·exact .inl h2
 exact .inr ⟨g,cap,cur,rfl,h3,by rw [hb g rfl];exact h4,h5⟩
theorem Ow.ext (h:Ow B M w T v l) (e:Ext M M' w w') (hb:∀k,v.ownBlock=some k→w'.heap[k]? =w.heap[k]?):Ow B M' w' T v l:=by
 obtain ⟨xs,h1,h2⟩:=h
 exact ⟨xs,ownsRow_same h1 hb,fun j x hj=>GR.ext e (h2 j x hj)⟩
theorem Ow.below (h:Ow B M w T v l) (hb:Below w.heap.size w w'):Ow B M w' T v l:=
 h.ext (Ext.of_below hb) fun k hk=>hb.block k (h.lt k hk).2
theorem Ow.alloc (h:Ow B M w T v l) (o:Obj):Ow B M (w.alloc o) T v l:=
 h.ext (Ext.alloc _ _ _) fun k hk=>Below.heap_alloc _ _ _ (h.lt k hk).2
theorem Ow.drew (h:Ow B M w T v l):Ow B M w.drew T v l:=h.ext (Ext.drew _ _) fun _ _=>rfl
theorem Ow.drewN (h:Ow B M w T v l) (n:Nat):Ow B M (w.drewN n) T v l:=h.below (below_drewN _ _ _)
theorem Ow.setOther (h:Ow B M w T v l) {p:Addr} (hp:M p.block) (hne:∀k,v.ownBlock=some k→k≠p.block) (u:Value):Ow B M (w.setCell p u) T v l:=
 h.ext (Ext.setCell _ hp u) fun k hk=>Below.heap_setCell _ _ _ _ (hne k hk)
theorem Ow.push {xs news:List Value} {x:α} (hr:w.ownsRow B T (GR.sz α) v l.length xs) (hx:∀j x,l[j]? =some x→GR.rep M w ((xs.drop (j*GR.sz α)).take (GR.sz α)) x)
    (e:Ext M M' w w') (ho:w'.ownsRow B T (GR.sz α) v' (l.length+1) (xs++news)) (hn:GR.rep M' w' news x):Ow B M' w' T v' (l++[x]):=by
 have hl:xs.length=l.length*GR.sz α:=hr.1
 refine ⟨xs++news,by simpa using ho,fun j y hj=> ?_⟩
 by_cases hlt:j<l.length
 ·rw [List.getElem?_append_left hlt] at hj
  have:=GR.ext e (hx j y hj)
  have h1:(j+1)*GR.sz α≤xs.length:=by rw [hl];exact Nat.mul_le_mul_right _ hlt
  rw [Nat.add_mul,Nat.one_mul] at h1
  rw [List.drop_append_of_le_length (by omega),List.take_append_of_le_length (by simp;omega)]
  exact this
 have hj2 : j = l.length := by
  by_cases e2:j<(l++[x]).length
  ·simp at e2;omega
  rw [List.getElem?_eq_none (by omega)] at hj;simp at hj
 subst hj2
 rw [List.getElem?_append_right (Nat.le_refl _)] at hj
 simp at hj
 subst hj
 rw [←hl,List.drop_append_of_le_length (Nat.le_refl _),List.drop_length,List.nil_append,List.take_of_length_le (by rw [GR.len hn];exact Nat.le_refl _)]
 exact hn
theorem Ow.toSl (h:Ow B M w T (.slice a l.length c) l) (hM:∀k,(Value.slice a l.length c).ownBlock=some k→¬M k):Sl M w a c l:=by
 obtain ⟨xs,h1,h2⟩:=h
 rcases h1.2 with ⟨hv,h0⟩|⟨g,cap,cur,hv,hb,hg,h3,h4,h5,h6⟩
 ·obtain rfl:=List.length_eq_zero_iff.1 h0
  simp only [Value.slice.injEq] at hv
  obtain ⟨rfl,_,rfl⟩:=hv
  exact ⟨Nat.le_refl _,by unfold maxLen;omega,fun j x h=>by simp at h⟩
 simp only [Value.slice.injEq,true_and] at hv
 obtain ⟨rfl,rfl⟩:=hv
 refine ⟨h3,h4,fun j x hj=>⟨g,0,_,rfl,(Array.getElem?_eq_some_iff.1 hg).1,hM g rfl,h2 j x hj,fun i u hi=> ?_⟩⟩
 have hjl:j<l.length:=by
  by_cases e:j<l.length
  ·exact e
  rw [List.getElem?_eq_none (by omega)] at hj;simp at hj
 have hi2:i<GR.sz α:=by
  by_cases e:i<GR.sz α
  ·exact e
  rw [List.getElem?_eq_none (by simp;omega)] at hi;simp at hi
 have hlt:j*GR.sz α+i<l.length*GR.sz α:=by
  have:=Nat.mul_le_mul_right (GR.sz α) hjl
  rw [Nat.succ_mul] at this
  omega
 rw [Nat.zero_add,h1.cellAt _ hlt]
 rw [List.getElem?_take,if_pos hi2,List.getElem?_drop] at hi
 exact hi
theorem Ow.ownsRow (h:Ow B M w T v l):∃xs,w.ownsRow B T (GR.sz α) v l.length xs∧∀j x,l[j]? =some x→GR.rep M w ((xs.drop (j*GR.sz α)).take (GR.sz α)) x:=h
end
section
variable {B:Nat} {M M':Nat→Prop} {w w':World} {T:TypeId} {v v':Value} {a:Option Addr} {c:Nat}
theorem take_drop_one {xs:List Value} {j:Nat} {u:Value} (h:(xs.drop (j*1)).take 1=[u]):xs[j]? =some u:=by
 have h1:((xs.drop (j*1)).take 1)[0]? =some u:=by rw [h];rfl
 simpa [List.getElem?_take,List.getElem?_drop] using h1
theorem ow_some {α:Type} [GR α] {l:List α} (h:Ow B M w T (.slice a l.length c) l) (h0:0<l.length):∃g,a=some ⟨g,0,none⟩∧B≤g∧g<w.heap.size:=by
 obtain ⟨xs,h1,_⟩:=h
 rcases h1.2 with ⟨_,h0'⟩|⟨g,cap,cur,hv,hb,hg,_⟩
 ·omega
 simp only [Value.slice.injEq,true_and] at hv
 exact ⟨g,hv.1,hb,(Array.getElem?_eq_some_iff.1 hg).1⟩
theorem Ow.at_int {l:List Int} (h:Ow B M w T (.slice a l.length c) l) {j:Nat} (hj:j<l.length):
    ∃g x,a=some ⟨g,0,none⟩∧w.cell? ⟨g,j,none⟩=some (.int .i64 x)∧w.frozen? ⟨g,j,none⟩=false∧Hid (l[j]? =some x)∧Hid (i64 x):=by
 obtain ⟨g,rfl,_,_⟩:=ow_some h (by omega)
 obtain ⟨xs,h1,h2⟩:=h
 obtain ⟨h3,h4⟩:=h2 j l[j] (by simp [hj])
 refine ⟨g,l[j],rfl,?_,h1.frozenAt j,by unfold Hid;simp [hj],h4⟩
 rw [h1.cellAt j (by simpa [GR.sz] using hj)]
 exact take_drop_one h3
theorem Ow.at_bool {l:List Bool} (h:Ow B M w T (.slice a l.length c) l) {j:Nat} (hj:j<l.length):
    ∃g x,a=some ⟨g,0,none⟩∧w.cell? ⟨g,j,none⟩=some (.bool x)∧w.frozen? ⟨g,j,none⟩=false∧Hid (l[j]? =some x):=by
 obtain ⟨g,rfl,_,_⟩:=ow_some h (by omega)
 obtain ⟨xs,h1,h2⟩:=h
 have h3:=h2 j l[j] (by simp [hj])
 refine ⟨g,l[j],rfl,?_,h1.frozenAt j,by unfold Hid;simp [hj]⟩
 rw [h1.cellAt j (by simpa [GR.sz] using hj)]
 exact take_drop_one h3
theorem take_drop_set {xs:List Value} {i j:Nat} {u:Value}:((xs.set i u).drop (j*1)).take 1=if i=j∧j<xs.length then [u] else (xs.drop (j*1)).take 1:=by
 apply List.ext_getElem?
 intro k
 rcases k with _|k
 ·by_cases e:i=j
  ·subst e
   by_cases hl:i<xs.length
   ·simp [List.getElem?_drop,hl]
   simp [List.getElem?_drop,hl]
  simp [List.getElem?_drop,e]
 rw [List.getElem?_take,if_neg (by omega)]
 split
 ·simp
 rw [List.getElem?_take,if_neg (by omega)]
theorem Ow.set {α:Type} [GR α] (hs1:GR.sz α=1) {l:List α} {g:Nat} (h:Ow B M w T (.slice (some ⟨g,0,none⟩) l.length c) l) (hM:M g) {j:Nat} {u:Value} {x:α}
    (hx:GR.rep M (w.setCell ⟨g,j,none⟩ u) [u] x):Ow B M (w.setCell ⟨g,j,none⟩ u) T (.slice (some ⟨g,0,none⟩) l.length c) (l.set j x):=by
 obtain ⟨xs,h1,h2⟩:=h
 have hl:xs.length=l.length:=by have:=h1.1;rw [hs1] at this;omega
 refine ⟨xs.set j u,by simpa using (h1.stored j u).1,fun i y hi=> ?_⟩
 rw [hs1] at h2 ⊢
 rw [take_drop_set]
 by_cases e:j=i
 ·subst e
  by_cases hl2:j<l.length
  ·rw [if_pos ⟨rfl,by omega⟩]
   simp [hl2] at hi
   subst hi
   exact hx
  rw [List.getElem?_eq_none (by simp;omega)] at hi;simp at hi
 rw [if_neg (by omega)]
 rw [List.getElem?_set_ne e] at hi
 exact GR.ext (Ext.setCell w (p:=⟨g,j,none⟩) hM u) (h2 i y hi)
theorem Ow.anyM {l:List Int} (h:Ow B M w T v l):Ow B M' w T v l:=by
 obtain ⟨xs,h1,h2⟩:=h
 exact ⟨xs,h1,fun j x hj=>h2 j x hj⟩
theorem Ow.fresh {l:List Int} (h:Ow B M w T (.slice a l.length c) l) {n:Nat} (hB:n≤B):Sl (fun k=>k<n) w a c l:=
 (h.anyM (M':=fun k=>k<n)).toSl fun k hk hlt=>by have:=(h.lt k hk).1;omega
theorem Ow.at_bool' {l:List Bool} {n:Nat} (hn:n=l.length) (h:Ow B M w T (.slice a n c) l) {j:Nat} (hj:j<l.length):
    ∃g x,a=some ⟨g,0,none⟩∧w.cell? ⟨g,j,none⟩=some (.bool x)∧w.frozen? ⟨g,j,none⟩=false∧Hid (l[j]? =some x):=by
 subst hn;exact h.at_bool hj
theorem Ow.set_bool {l:List Bool} {g n:Nat} (h:Ow B M w T (.slice (some ⟨g,0,none⟩) n c) l) (hn:n=l.length) (hM:M g) (x:Bool) (j:Nat):
    Ow B M (w.setCell ⟨g,j,none⟩ (.bool x)) T (.slice (some ⟨g,0,none⟩) n c) (l.set j x):=by
 subst hn;exact Ow.set rfl h hM (u:= .bool x) rfl
theorem Ow.uptob {l:List Bool} {B':Nat} (h:Ow B M w T v l) (hb:Below B' w w') (hk:∀k,v.ownBlock=some k→k<B'):Ow B M w' T v l:=by
 obtain ⟨xs,h1,h2⟩:=h
 exact ⟨xs,ownsRow_same h1 fun k hk'=>hb.block k (hk k hk'),fun j x hj=>h2 j x hj⟩
theorem Ow.setOtherI {l:List Int} (h:Ow B M w T v l) {p:Addr} (hne:∀k,v.ownBlock=some k→k≠p.block) (u:Value):Ow B M (w.setCell p u) T v l:=by
 obtain ⟨xs,h1,h2⟩:=h
 exact ⟨xs,ownsRow_same h1 fun k hk'=>Below.heap_setCell _ _ _ _ (hne k hk'),fun j x hj=>h2 j x hj⟩
theorem Ow.zero {α:Type} [GR α] (hB:B≤w.heap.size):Ow B M (w.alloc (.cells #[] T)) T (.slice (some ⟨w.heap.size,0,none⟩) 0 0) ([]:List α):=
 ⟨[],World.ownsRow_lit w #[] 0 hB (by unfold maxLen;omega) (by simp),fun j y hj=>by simp at hj⟩
theorem Ow.one {x:Int} (hx:i64 x) (hB:B≤w.heap.size):Ow B M (w.alloc (.cells #[.int .i64 x] T)) T (.slice (some ⟨w.heap.size,0,none⟩) 1 1) [x]:=by
 refine ⟨[.int .i64 x],?_,fun j y hj=> ?_⟩
 ·exact World.ownsRow_lit w #[.int .i64 x] 1 hB (by unfold maxLen;omega) (by simp [GR.sz])
 match j,hj with
 |0,hj=>simp at hj;subst hj;exact ⟨rfl,hx⟩
theorem Sl.lt {α:Type} [GR α] {l:List α} {b off:Nat} (h:Sl M w (some ⟨b,off,none⟩) c l) {j:Nat} (hj:j<l.length):b<w.heap.size:=by
 obtain ⟨b',off',cs,ha,hb,_⟩:=h.2.2 j l[j] (by simp [hj])
 simp at ha
 rw [ha.1];exact hb
theorem rep_bool {M:Nat→Prop} {w:World} {x:Bool}:GR.rep M w [.bool x] x:=rfl
theorem rep_slice {α:Type} [GR α] {M:Nat→Prop} {w:World} {a:Option Addr} {c:Nat} {l:List α} (h:Sl M w a c l):GR.rep M w [.slice a l.length c] l:=⟨a,c,rfl,h⟩
end
structure Tr where
 inn:List Int
 out:List Int
 deriving DecidableEq
instance:GR Tr where
 sz:=2
 rep M w cs t:=∃a c a' c',cs=[.slice a t.inn.length c,.slice a' t.out.length c']∧Sl M w a c t.inn∧Sl M w a' c' t.out
 len h:=by obtain ⟨a,c,a',c',h,_⟩:=h;rw [h];rfl
 ext e h:=by obtain ⟨a,c,a',c',h,h1,h2⟩:=h;exact ⟨a,c,a',c',h,h1.ext e,h2.ext e⟩
structure Ob where
 inputs:Int
 traces:List Tr
 deriving DecidableEq
structure Hy where
 m:Mach
 acc:List (List Int)
 deriving DecidableEq
structure Sp where
 pre:List Int
 sym:Int
 suf:List Int
 deriving DecidableEq
theorem Sl.at_tr {M:Nat→Prop} {w:World} {a:Option Addr} {c:Nat} {l:List Tr} (h:Sl M w a c l) {j:Nat} (hj:j<l.length):
    ∃b off a1 c1 a2 c2 t,a=some ⟨b,off,none⟩∧w.cell? ⟨b,off+j*2,none⟩=some (.slice a1 t.inn.length c1)∧w.cell? ⟨b,off+j*2+1,none⟩=some (.slice a2 t.out.length c2)∧Hid (l[j]? =some t)∧
     Sl M w a1 c1 t.inn∧Sl M w a2 c2 t.out:=by
 obtain ⟨b,off,cs,ha,_,_,⟨a1,c1,a2,c2,rfl,h1,h2⟩,hc⟩:=h.2.2 j l[j] (by simp [hj])
 refine ⟨b,off,a1,c1,a2,c2,l[j],ha,by simpa [GR.sz] using hc 0 _ rfl,by simpa [GR.sz] using hc 1 _ rfl,by unfold Hid;simp [hj],h1,h2⟩
structure Os (M:Nat→Prop) (w:World) (a:Option Addr) (c:Nat) (o:Ob):Prop where
 inputs:i64 o.inputs
 traces:Sl M w a c o.traces
abbrev obV (o:Ob) (a:Option Addr) (c:Nat):Value:= .agg #[.int .i64 o.inputs,.slice a o.traces.length c]
structure Hp (M:Nat→Prop) (w:World) (an:Option Addr) (cn:Nat) (ao:Option Addr) (co:Nat) (ac:Option Addr) (cc:Nat) (h:Hy):Prop where
 m:Ma M w an cn ao co h.m
 acc:Sl M w ac cc h.acc
abbrev hyV (h:Hy) (an:Option Addr) (cn:Nat) (ao:Option Addr) (co:Nat) (ac:Option Addr) (cc:Nat):Value:=
 .agg #[.int .i64 h.m.inputs,.int .i64 h.m.start,.slice an h.m.next.length cn,.slice ao h.m.out.length co,.slice ac h.acc.length cc]
abbrev trV (t:Tr) (a:Option Addr) (c:Nat) (a':Option Addr) (c':Nat):Value:= .agg #[.slice a t.inn.length c,.slice a' t.out.length c']
section
variable {M M':Nat→Prop} {w w':World} {a an ao ac:Option Addr} {c cn co cc:Nat} {o:Ob} {h:Hy}
theorem Os.ext (e:Ext M M' w w') (h:Os M w a c o):Os M' w' a c o:=⟨h.inputs,h.traces.ext e⟩
theorem Os.below (h:Os M w a c o) (hb:Below w.heap.size w w'):Os M w' a c o:=h.ext (Ext.of_below hb)
theorem Hp.ext (e:Ext M M' w w') (k:Hp M w an cn ao co ac cc h):Hp M' w' an cn ao co ac cc h:=⟨k.m.ext e,k.acc.ext e⟩
theorem Hp.below (k:Hp M w an cn ao co ac cc h) (hb:Below w.heap.size w w'):Hp M w' an cn ao co ac cc h:=k.ext (Ext.of_below hb)
end
abbrev obO (o:Ob) (a:Option Addr) (c:Nat):Obj:= .cells #[.int .i64 o.inputs,.slice a o.traces.length c] 39
abbrev O2 (w:World) (b:Nat) (a:Option Addr) (c:Nat) (o:Ob):Prop:=w.cell? ⟨b,0,none⟩=some (.int .i64 o.inputs)∧w.cell? ⟨b,1,none⟩=some (.slice a o.traces.length c)
abbrev hyO (h:Hy) (an:Option Addr) (cn:Nat) (ao:Option Addr) (co:Nat) (ac:Option Addr) (cc:Nat):Obj:= .cells #[.int .i64 h.m.inputs,.int .i64 h.m.start,.slice an h.m.next.length cn,.slice ao h.m.out.length co,.slice ac h.acc.length cc] 43
abbrev H5 (w:World) (b:Nat) (an:Option Addr) (cn:Nat) (ao:Option Addr) (co:Nat) (ac:Option Addr) (cc:Nat) (h:Hy):Prop:=C4 w b an cn ao co h.m∧w.cell? ⟨b,4,none⟩=some (.slice ac h.acc.length cc)
abbrev trO (t:Tr) (a:Option Addr) (c:Nat) (a':Option Addr) (c':Nat):Obj:= .cells #[.slice a t.inn.length c,.slice a' t.out.length c'] 96
abbrev T2 (w:World) (b:Nat) (a:Option Addr) (c:Nat) (a':Option Addr) (c':Nat) (t:Tr):Prop:=w.cell? ⟨b,0,none⟩=some (.slice a t.inn.length c)∧w.cell? ⟨b,1,none⟩=some (.slice a' t.out.length c')
abbrev S3 (w:World) (b:Nat) (a:Option Addr) (c:Nat) (a':Option Addr) (c':Nat) (s:Sp):Prop:=w.cell? ⟨b,0,none⟩=some (.slice a s.pre.length c)∧w.cell? ⟨b,1,none⟩=some (.int .i64 s.sym)∧w.cell? ⟨b,2,none⟩=some (.slice a' s.suf.length c')
section
variable {B b:Nat} {w w':World} {an ao ac a a':Option Addr} {cn co cc c c':Nat} {h:Hy} {o:Ob} {t:Tr} {s:Sp}
theorem o2_new (w:World):O2 (w.alloc (obO o a c)) w.heap.size a c o:=by refine ⟨?_,?_⟩<;>simp
theorem O2.below (h:O2 w b a c o) (hb:Below B w w') (hlt:b<B):O2 w' b a c o:=⟨(hb.cell (p:=⟨b,0,none⟩) hlt).trans h.1,(hb.cell (p:=⟨b,1,none⟩) hlt).trans h.2⟩
theorem h5_new (w:World):H5 (w.alloc (hyO h an cn ao co ac cc)) w.heap.size an cn ao co ac cc h:=by refine ⟨⟨?_,?_,?_,?_⟩,?_⟩<;>simp
theorem H5.below (k:H5 w b an cn ao co ac cc h) (hb:Below B w w') (hlt:b<B):H5 w' b an cn ao co ac cc h:=⟨k.1.below hb hlt,(hb.cell (p:=⟨b,4,none⟩) hlt).trans k.2⟩
theorem t2_new (w:World):T2 (w.alloc (trO t a c a' c')) w.heap.size a c a' c' t:=by refine ⟨?_,?_⟩<;>simp
theorem T2.below (h:T2 w b a c a' c' t) (hb:Below B w w') (hlt:b<B):T2 w' b a c a' c' t:=⟨(hb.cell (p:=⟨b,0,none⟩) hlt).trans h.1,(hb.cell (p:=⟨b,1,none⟩) hlt).trans h.2⟩
theorem S3.below (h:S3 w b a c a' c' s) (hb:Below B w w') (hlt:b<B):S3 w' b a c a' c' s:=⟨(hb.cell (p:=⟨b,0,none⟩) hlt).trans h.1,(hb.cell (p:=⟨b,1,none⟩) hlt).trans h.2.1,(hb.cell (p:=⟨b,2,none⟩) hlt).trans h.2.2⟩
end
def dA (a:Option Addr) (c i:Nat):Option Addr:=if c=i then a else a.map (·.add i)
theorem Sl.drop {M:Nat→Prop} {w:World} {a:Option Addr} {c:Nat} {l:List Int} (h:Sl M w a c l) {i:Nat} (hi:i≤l.length):Sl M w (dA a c i) (c-i) (l.drop i):=by
 refine ⟨by have:=h.1;rw [List.length_drop];omega,by have:=h.2.1;omega,fun j x hj=> ?_⟩
 have hj2:l[i+j]? =some x:=by rw [List.getElem?_drop] at hj;exact hj
 have hjl:i+j<l.length:=by
  by_cases e:i+j<l.length
  ·exact e
  rw [List.getElem?_eq_none (by omega)] at hj2;simp at hj2
 obtain ⟨b,off,cs,ha,hb,hm,hr,hc⟩:=h.2.2 (i+j) x hj2
 refine ⟨b,off+i,cs,?_,hb,hm,hr,fun k u hk=> ?_⟩
 ·have:=h.1
  unfold dA
  rw [if_neg (by omega),ha]
  simp only [Option.map_some,Addr.add]
  split
  ·rename_i h0;subst h0;rfl
  rfl
 have:=hc k u hk
 have e:off+i+j*GR.sz Int+k=off+(i+j)*GR.sz Int+k:=by simp only [GR.sz];omega
 rw [e];exact this
theorem Sl.taken {α:Type} [GR α] {M:Nat→Prop} {w:World} {a:Option Addr} {c:Nat} {l:List α} (h:Sl M w a c l) {n:Nat} (hn:n≤l.length):Sl M w a c (l.take n):=by
 refine ⟨by have:=h.1;rw [List.length_take];omega,h.2.1,fun j x hj=>h.2.2 j x ?_⟩
 rw [List.getElem?_take] at hj
 split at hj
 ·exact hj
 simp at hj
theorem info_int:(Tryz.prog.info? 3).map (fun i=>(i.zero,i.size,i.bytes))=some (some (.int .i64 0),1,8):=by kernel_rfl
theorem info_bool:(Tryz.prog.info? 4).map (fun i=>(i.zero,i.size,i.bytes))=some (some (.bool false),1,1):=by kernel_rfl
theorem info_ints:(Tryz.prog.info? 94).map (fun i=>(i.zero,i.size,i.bytes))=some (some (.slice none 0 0),1,24):=by kernel_rfl
section
variable {P:Program} {α:Type} [GR α] {w:World} {ops:Array Oper} {rest:List Oper} {o:Oper} {a:Act} {Q:Exit→Act→World→Prop}
theorem wpList_mk (hg:o.guard=none) (x y:Operand) (t:TypeId) (hop:o.op= .makeSlice t x y) (e:TypeId) (z:Value) (bytes:Nat) (ht:P.underlying t=some (.slice e))
    (hi:(P.info? e).map (fun i=>(i.zero,i.size,i.bytes))=some (some z,1,bytes)) (hzc:z.cells= #[z]) (B:Nat) (M:Nat→Prop) (d:α) (hs1:GR.sz α=1) (hz:∀w,GR.rep M w [z] d)
    (n:Nat) (hx:a.eval x= .int .i64 n) (hy:a.eval y= .int .i64 n) (hn:bytes*n≤281474976710656) (hn2:n≤maxLen) (hB:B≤w.heap.size)
    (h:∀(g c:Nat) (l:List α) (w':World),Hid (l=List.replicate n d)→Ow B M w' e (.slice (some ⟨g,0,none⟩) l.length c) l→w.heap.size≤g→w.heap.size<w'.heap.size→Below w.heap.size w w'→
     wpList P ops Q rest (a.put o.dst (.slice (some ⟨g,0,none⟩) l.length c)) w'):wpList P ops Q (o::rest) a w:=by
 refine wpList_plain hg fun K hK=> ?_
 obtain ⟨i,hi1,hi2,hi3,hi4⟩:=info_parts hi
 have hn':(bytes:Int)*(n:Int)≤281474976710656:=by
  have h1:((bytes*n:Nat):Int)≤281474976710656:=by omega
  rwa [Int.natCast_mul] at h1
 have hn3:(n:Int)≤9223372036854775807:=by
  have h1:=hn2
  unfold maxLen at h1
  omega
 have hr:=run_make (P:=P) w t e i z ht hi1 hi2 .i64 .i64 n n (by omega) (Int.le_refl _) (by rw [hi4];exact hn') hn3
 rw [hzc,hi3] at hr
 simp only [Int.toNat_natCast,Nat.mul_one] at hr
 unfold Oper.wp
 simp only [execOp,hop,hx,hy,hr,Sem.run_bind,Result.andThen_ok,Sem.run_pure,Oper.upon]
 have hown:(w.alloc (.cells (madeCells #[z] n) e)).ownsRow B e 1 (.slice (some ⟨w.heap.size,0,none⟩) n n) n (madeCells #[z] n).toList:=World.ownsRow_lit w _ n hB hn2 (by rw [size_madeCells];omega)
 have key:=h w.heap.size n (List.replicate n d) (w.alloc (.cells (madeCells #[z] n) e)) rfl ?_ (Nat.le_refl _) (by simp) ((Below.refl _ _).alloc (Nat.le_refl _) _)
 ·simp only [List.length_replicate] at key
  exact hK _ _ key
 refine ⟨(madeCells #[z] n).toList,?_,fun j u hj=> ?_⟩
 ·rw [hs1];simpa using hown
 rw [hs1,toList_madeCells_one]
 have hjn:j<n:=by
  by_cases e:j<n
  ·exact e
  rw [List.getElem?_eq_none (by simp;omega)] at hj;simp at hj
 simp [hjn] at hj
 subst hj
 have:((List.replicate n z).drop (j*1)).take 1=[z]:=by
  rw [Nat.mul_one,List.drop_replicate,List.take_replicate]
  have:min 1 (n-j)=1:=by omega
  rw [this];rfl
 rw [this]
 exact hz _
theorem append_block {base:Nat} {t ty e:TypeId} {i:TypeInfo} {z:Value} {size bytes:Nat} (ht:P.underlying t=some (.slice e)) (hi:P.info? e=some i) (hz:i.zero=some z)
    (hsize:i.size=size) (hby:i.bytes=bytes) {v:Value} {n:Nat} {xs:List Value} (hown:w.ownsRow base e size v n xs)
    {a:Addr} {m c:Nat} {news:List Value} (hl:news.length=m*size) (hnews:∀j u,news[j]? =some u→w.cell? (a.add j)=some u) (h1:∀u∈news,u.oneCell'=true)
    (h63:n+m≤maxLen) (hbytes:(n+m)*bytes≤140737488355328) {v':Value} {w':World} (hr:(Builtin.append_ #[t,t] ty #[v,.slice (some a) m c]).run P w= .ok v' w'):
    v'.ownBlock=v.ownBlock∨v'.ownBlock=some w.heap.size:=by
 subst hsize
 subst hby
 have hsmall:n+m≤9223372036854775807:=by simp only [maxLen] at h63;omega
 rcases hown.2 with ⟨rfl,rfl⟩|⟨g,cap,cur,rfl,hbg,hg,hnc,hcm,hcs,htake⟩
 ·by_cases hm:m=0
  ·subst hm
   have hn:news=[]:=List.eq_nil_of_length_eq_zero (by simpa using hl)
   subst hn
   left
   have:(Builtin.append_ #[t,t] ty #[.slice none 0 0,.slice (some a) 0 c]).run P w= .ok (.slice none 0 0) w:=by
    simp [Builtin.append_,run_underlying ht,sizeOf,typeInfo,hi,Builtin.lenOf,Builtin.firstCells,loadCells,loadCellsFrom]
   rw [this] at hr
   simp only [Result.ok.injEq] at hr
   rw [←hr.1]
  have hr2:=run_append_nil (P:=P) w t ty e i z ht hi hz a m c news hl hnews (by omega) (by omega) (by have hb:=hbytes;simp only [Nat.zero_add] at hb;omega)
  rw [hr2] at hr
  simp only [Result.ok.injEq] at hr
  right
  rw [←hr.1]
  rfl
 by_cases hroom:n+m≤cap
 ·have hfit:n*i.size+news.length≤cur.size:=by rw [hl,hcs,←Nat.add_mul];exact Nat.mul_le_mul_right _ hroom
  have hr2:=run_append_room (P:=P) w t ty e i ht hi g n cap cur hg a m c news hl hnews h1 hroom hfit
  rw [hr2] at hr
  simp only [Result.ok.injEq] at hr
  left
  rw [←hr.1]
  rfl
 have holds:∀j u,xs[j]? =some u→w.cell? ((⟨g,0,none⟩:Addr).add j)=some u:=hown.cells (g:=g) rfl
 have hr2:=run_append_grow (P:=P) w t ty e i z ht hi hz ⟨g,0,none⟩ n cap xs hown.1 holds a m c news hl hnews (by omega) (by omega) (growslice_fits (by omega) hbytes)
 rw [hr2] at hr
 simp only [Result.ok.injEq] at hr
 right
 rw [←hr.1]
 rfl
theorem wp_push2 {K:Act→World→Prop} (s x:Operand) (t:TypeId) (hop:o.op= .call {callee:= .builtin .append,args:= #[s,x],argTypes:= #[t,t]})
    (e:TypeId) (z:Value) (size bytes:Nat) (ht:P.underlying t=some (.slice e)) (hi:(P.info? e).map (fun i=>(i.zero,i.size,i.bytes))=some (some z,size,bytes)) (hzs:z.cells.size=size) (hsz:0<size)
    (B:Nat) (M:Nat→Prop) (v:Value) (l:List α) (hs:a.eval s=v) (hsA:GR.sz α=size) (hown:Ow B M w e v l) (hM:∀k,v.ownBlock=some k→M k)
    (ad:Addr) (c:Nat) (news:List Value) (y:α) (hx:a.eval x= .slice (some ad) 1 c) (hy:GR.rep M w news y) (hnews:∀j u,news[j]? =some u→w.cell? (ad.add j)=some u) (h1:∀u∈news,u.oneCell'=true)
    (hlen:(l.length+1)*bytes≤140737488355328) (hlen2:l.length+1≤maxLen) (hB:B≤w.heap.size)
    (h:∀(a':Option Addr) (c':Nat) (l':List α) (w':World),Hid (l'=l++[y])→Ow B (fun k=>M k∨k=w.heap.size) w' e (.slice a' l'.length c') l'→Hid (∀k,(Value.slice a' l'.length c').ownBlock=some k→(v.ownBlock=some k∨k=w.heap.size)∧k<w'.heap.size)→
     w.grownBy w' v.ownBlock→K (a.put o.dst (.slice a' l'.length c')) w'):o.wp P a w K Q:=by
 obtain ⟨i,hi1,hi2,hi3,hi4⟩:=info_parts hi
 obtain ⟨xs,hr,hrep⟩:=hown
 subst hsA
 have hnl:news.length=1*GR.sz α:=by rw [GR.len hy];omega
 obtain ⟨v',w',hrun,ho,hgr,_⟩:=run_append_own (P:=P) w B t o.type e i z (GR.sz α) bytes ht hi1 hi2 hi3 hi4 hzs hsz v l.length xs hr ad 1 c news hnl hnews h1 hlen2 hlen hB
 have hblk:=append_block ht hi1 hi2 hi3 hi4 hr hnl hnews h1 hlen2 hlen hrun
 have he:Ext M (fun k=>M k∨k=w.heap.size) w w':=⟨hgr.size,fun k hk hm=>hgr.block k hk (fun e=>hm (hM k e.symm)),fun k hk hm=>hm.elim id (fun e=>by omega)⟩
 have hn:GR.rep (fun k=>M k∨k=w.heap.size) w' news y:=GR.ext he hy
 have hpush:Ow B (fun k=>M k∨k=w.heap.size) w' e v' (l++[y]):=Ow.push hr hrep he ho hn
 obtain ⟨a',c',hv,_,_⟩:=hpush.shape
 have hb2:∀k,v'.ownBlock=some k→(v.ownBlock=some k∨k=w.heap.size)∧k<w'.heap.size:=by
  intro k hk
  refine ⟨?_,(hpush.lt k hk).2⟩
  rcases hblk with e|e
  ·exact .inl (e▸hk)
  exact .inr (by rw [e] at hk;simpa using hk.symm)
 rw [hv] at hpush hb2
 unfold Oper.wp execOp
 simp only [hop,resolve,invoke,builtin,Sem.run_bind,Sem.run_pure,Result.andThen_ok,List.map_toArray,List.map_cons,List.map_nil,hs,hx,hrun]
 show K (a.put o.dst v') w'
 rw [hv]
 exact h a' c' _ w' rfl hpush hb2 hgr
theorem wpList_push (hg:o.guard=none) (s x:Operand) (t:TypeId) (hop:o.op= .call {callee:= .builtin .append,args:= #[s,x],argTypes:= #[t,t]})
    (e:TypeId) (z:Value) (size bytes:Nat) (ht:P.underlying t=some (.slice e)) (hi:(P.info? e).map (fun i=>(i.zero,i.size,i.bytes))=some (some z,size,bytes)) (hzs:z.cells.size=size) (hsz:0<size)
    (B:Nat) (M:Nat→Prop) (v:Value) (l:List α) (hs:a.eval s=v) (hsA:GR.sz α=size) (hown:Ow B M w e v l) (hM:∀k,v.ownBlock=some k→M k)
    (ad:Addr) (c:Nat) (news:List Value) (y:α) (hx:a.eval x= .slice (some ad) 1 c) (hy:GR.rep M w news y) (hnews:∀j u,news[j]? =some u→w.cell? (ad.add j)=some u) (h1:∀u∈news,u.oneCell'=true)
    (hlen:(l.length+1)*bytes≤140737488355328) (hlen2:l.length+1≤maxLen) (hB:B≤w.heap.size)
    (h:∀(a':Option Addr) (c':Nat) (l':List α) (w':World),Hid (l'=l++[y])→Ow B M w' e (.slice a' l'.length c') l'→w.grownBy w' v.ownBlock→
     wpList P ops Q rest (a.put o.dst (.slice a' l'.length c')) w'):wpList P ops Q (o::rest) a w:=by
 obtain ⟨i,hi1,hi2,hi3,hi4⟩:=info_parts hi
 obtain ⟨xs,hr,hrep⟩:=hown
 subst hsA
 refine wpList_append_own w hg s x t hop B e i z (GR.sz α) bytes ht hi1 hi2 hi3 hi4 hzs hsz v l.length xs hs hr ad 1 c news hx (by rw [GR.len hy];omega) hnews h1 hlen2 hlen hB ?_
 intro v' w' ho hgr hiff
 have he:Ext M M w w':=Ext.grownBy hgr hM
 have hn:GR.rep M w' news y:=GR.ext he hy
 have hpush:Ow B M w' e v' (l++[y]):=Ow.push hr hrep he ho hn
 obtain ⟨a',c',hv,_,_⟩:=hpush.shape
 rw [hv]
 rw [hv] at hpush
 exact h a' c' _ w' rfl hpush hgr
theorem wpList_push_i {l:List Int} {s x:Operand} {t e:TypeId} {B:Nat} {v:Value} {g:Nat} {c:Nat} {y:Int} (hg:o.guard=none) (hop:o.op= .call {callee:= .builtin .append,args:= #[s,x],argTypes:= #[t,t]})
    (ht:P.underlying t=some (.slice e)) (hi:(P.info? e).map (fun i=>(i.zero,i.size,i.bytes))=some (some (.int .i64 0),1,8))
    (hs:a.eval s=v) (hx:a.eval x= .slice (some ⟨g,0,none⟩) 1 c) (hown:Ow B (fun k=>B≤k) w e v l) (hnew:w.cell? ⟨g,0,none⟩=some (.int .i64 y)) (hy:i64 y)
    (hlen:l.length<1000000000000) (hB:B≤w.heap.size)
    (h:∀(a':Option Addr) (c':Nat) (l':List Int) (w':World),Hid (l'=l++[y])→Ow B (fun k=>B≤k) w' e (.slice a' l'.length c') l'→Below B w w'→
     wpList P ops Q rest (a.put o.dst (.slice a' l'.length c')) w'):wpList P ops Q (o::rest) a w:=by
 refine wpList_push hg s x t hop e (.int .i64 0) 1 8 ht hi rfl (by decide) B (fun k=>B≤k) v l hs rfl hown (fun k hk=>(hown.lt k hk).1) ⟨g,0,none⟩ c [.int .i64 y] y hx ⟨rfl,hy⟩ ?_ ?_ (by omega) (by unfold maxLen;omega) hB ?_
 ·intro j u hj
  match j,hj with
  |0,hj=>simp at hj;subst hj;simpa [Addr.add] using hnew
 ·intro u hu;simp at hu;subst hu;rfl
 intro a' c' l' w' h1 h2 h3
 exact h a' c' l' w' h1 h2 ((Below.refl _ _).grown h3 hB (fun k hk=>(hown.lt k hk).1))
theorem wpList_mk_b {x:Operand} {t e:TypeId} {B n:Nat} (hg:o.guard=none) (hop:o.op= .makeSlice t x x) (ht:P.underlying t=some (.slice e))
    (hi:(P.info? e).map (fun i=>(i.zero,i.size,i.bytes))=some (some (.bool false),1,1)) (hx:a.eval x= .int .i64 n) (hn:n<1000000000000) (hB:B≤w.heap.size)
    (h:∀(g c:Nat) (l:List Bool) (w':World),Hid (l=List.replicate n false)→Ow B (fun k=>B≤k) w' e (.slice (some ⟨g,0,none⟩) l.length c) l→Below w.heap.size w w'→w.heap.size≤g→
     wpList P ops Q rest (a.put o.dst (.slice (some ⟨g,0,none⟩) l.length c)) w'):wpList P ops Q (o::rest) a w:=
 wpList_mk hg x x t hop e (.bool false) 1 ht hi rfl B (fun k=>B≤k) false rfl (fun _=>rep_bool) n hx hx (by omega) (by unfold maxLen;omega) hB
  fun g c l w' h1 h2 h3 _ h5=>h g c l w' h1 h2 h5 h3
theorem wpList_app_ints {l0 l1:List Int} {s x:Operand} {t e:TypeId} {B:Nat} {M:Nat→Prop} {v:Value} {ad:Addr} {c:Nat} (hg:o.guard=none) (hop:o.op= .call {callee:= .builtin .append,args:= #[s,x],argTypes:= #[t,t]})
    (ht:P.underlying t=some (.slice e)) (hi:(P.info? e).map (fun i=>(i.zero,i.size,i.bytes))=some (some (.int .i64 0),1,8))
    (hs:a.eval s=v) (hx:a.eval x= .slice (some ad) l1.length c) (hown:Ow B (fun k=>B≤k) w e v l0) (hsrc:Sl M w (some ad) c l1)
    (hlen:l0.length+l1.length<1000000000000) (hB:B≤w.heap.size)
    (h:∀(a':Option Addr) (c':Nat) (l':List Int) (w':World),Hid (l'=l0++l1)→Ow B (fun k=>B≤k) w' e (.slice a' l'.length c') l'→Below B w w'→
     wpList P ops Q rest (a.put o.dst (.slice a' l'.length c')) w'):wpList P ops Q (o::rest) a w:=by
 obtain ⟨i,hi1,hi2,hi3,hi4⟩:=info_parts hi
 have hown0:=hown
 obtain ⟨xs,hr,hrep⟩:=hown
 refine wpList_append_own w hg s x t hop B e i (.int .i64 0) 1 8 ht hi1 hi2 hi3 hi4 rfl (by decide) v l0.length xs hs hr ad l1.length c (l1.map (.int .i64)) hx (by simp) ?_ ?_ (by unfold maxLen;omega) (by omega) hB ?_
 ·intro j u hj
  rw [List.getElem?_map] at hj
  obtain ⟨y,hy,rfl⟩:=Option.map_eq_some_iff.1 hj
  have hjl:j<l1.length:=by
   by_cases e:j<l1.length
   ·exact e
   rw [List.getElem?_eq_none (by omega)] at hy;simp at hy
  obtain ⟨b,off,z,had,hc,hz,_⟩:=hsrc.at_int hjl
  have had':ad=⟨b,off,none⟩:=by simpa using had
  have hz':y=z:=by have:=hz.out;rw [hy] at this;simpa using this
  rw [had',hz',Addr.add]
  split
  ·rename_i h0;subst h0;simpa using hc
  exact hc
 ·intro u hu
  obtain ⟨y,_,rfl⟩:=List.mem_map.1 hu
  rfl
 intro v' w' ho hgr hiff
 have hl0:xs.length=l0.length:=by have:=hr.1;simpa [GR.sz] using this
 have hpush:Ow B (fun k=>B≤k) w' e v' (l0++l1):=by
  refine ⟨xs++l1.map (Value.int .i64),by simpa [GR.sz] using ho,fun j y hj=> ?_⟩
  by_cases hlt:j<l0.length
  ·rw [List.getElem?_append_left hlt] at hj
   have:=hrep j y hj
   simp only [GR.sz,Nat.mul_one] at this ⊢
   rw [List.drop_append_of_le_length (by omega),List.take_append_of_le_length (by simp;omega)]
   exact this
  rw [List.getElem?_append_right (by omega)] at hj
  have hjl:j-l0.length<l1.length:=by
   by_cases e:j-l0.length<l1.length
   ·exact e
   rw [List.getElem?_eq_none (by omega)] at hj;simp at hj
  obtain ⟨b,off,z,_,_,hz,hzi⟩:=hsrc.at_int hjl
  have hz':y=z:=by have:=hz.out;rw [hj] at this;simpa using this
  subst hz'
  simp only [GR.sz,Nat.mul_one]
  have e1:((xs++l1.map (Value.int .i64)).drop j).take 1=[.int .i64 y]:=by
   apply List.ext_getElem?
   intro q
   rcases q with _|q
   ·rw [List.getElem?_take,if_pos (by omega),List.getElem?_drop,List.getElem?_append_right (by omega),List.getElem?_map,hl0,Nat.add_zero,hj]
    rfl
   rw [List.getElem?_take,if_neg (by omega)];rfl
  rw [e1]
  exact ⟨rfl,hzi.out⟩
 obtain ⟨a',c',hv,_,_⟩:=hpush.shape
 rw [hv]
 rw [hv] at hpush
 exact h a' c' _ w' rfl hpush ((Below.refl _ _).grown hgr hB (fun k hk=>(hown0.lt k hk).1))
end
theorem Ow.subM {α:Type} [GR α] {B:Nat} {M M':Nat→Prop} {w:World} {T:TypeId} {v:Value} {l:List α} (h:Ow B M w T v l) (hs:∀k,k<w.heap.size→M' k→M k):Ow B M' w T v l:=
 h.ext (Ext.sub_only hs) fun _ _=>rfl
structure Mk (B0:Nat) (M:Nat→Prop) (w:World) (bo:Nat) (inp st:Int) (aN:Option Addr) (cN:Nat) (rN:List (List Int)) (aO:Option Addr) (cO:Nat) (rO:List (List Int)):Prop where
 old:∀q,q<B0→M q
 mbo:M bo
 blk:w.heap[bo]? =some (.cells #[.int .i64 inp,.int .i64 st,.slice aN rN.length cN,.slice aO rO.length cO] 41 (0,0))
 n:Ow B0 M w 94 (.slice aN rN.length cN) rN
 o:Ow B0 M w 94 (.slice aO rO.length cO) rO
 mn:∀k,(Value.slice aN rN.length cN).ownBlock=some k→M k∧k≠bo
 mo:∀k,(Value.slice aO rO.length cO).ownBlock=some k→M k∧k≠bo
 no:∀k k',(Value.slice aN rN.length cN).ownBlock=some k→(Value.slice aO rO.length cO).ownBlock=some k'→k≠k'
 b0:B0≤bo
 lt:∀q,B0≤q→M q→q<w.heap.size
section
variable {B0:Nat} {M M':Nat→Prop} {w w':World} {bo:Nat} {inp st:Int} {aN:Option Addr} {cN:Nat} {rN:List (List Int)} {aO:Option Addr} {cO:Nat} {rO:List (List Int)}
theorem Mk.ext (h:Mk B0 M w bo inp st aN cN rN aO cO rO) (e:Ext M M w w') (hb:∀k,B0≤k→M k→w'.heap[k]? =w.heap[k]?):Mk B0 M w' bo inp st aN cN rN aO cO rO:=
 ⟨h.old,h.mbo,(hb _ h.b0 h.mbo).trans h.blk,h.n.ext e (fun k hk=>hb k (h.n.lt k hk).1 (h.mn k hk).1),h.o.ext e (fun k hk=>hb k (h.o.lt k hk).1 (h.mo k hk).1),h.mn,h.mo,h.no,h.b0,fun q h1 h2=>Nat.lt_of_lt_of_le (h.lt q h1 h2) e.size⟩
theorem Mk.below (h:Mk B0 M w bo inp st aN cN rN aO cO rO) (hb:Below w.heap.size w w'):Mk B0 M w' bo inp st aN cN rN aO cO rO:=
 h.ext (Ext.of_below hb) fun k h1 h2=>hb.block k (h.lt k h1 h2)
theorem Mk.alloc (h:Mk B0 M w bo inp st aN cN rN aO cO rO) (o:Obj):Mk B0 M (w.alloc o) bo inp st aN cN rN aO cO rO:=h.below ((Below.refl _ _).alloc (Nat.le_refl _) o)
theorem Mk.drewN (h:Mk B0 M w bo inp st aN cN rN aO cO rO) (n:Nat):Mk B0 M (w.drewN n) bo inp st aN cN rN aO cO rO:=h.below (below_drewN _ _ _)
theorem Mk.drew (h:Mk B0 M w bo inp st aN cN rN aO cO rO):Mk B0 M w.drew bo inp st aN cN rN aO cO rO:=h.below ((Below.refl _ _).drew)
theorem Mk.open (h:Mk B0 M w bo inp st aN cN rN aO cO rO) {g:Nat} (hg:w.heap.size≤g) (hb:Below w.heap.size w w') (hg2:g<w'.heap.size):Mk B0 (fun k=>M k∨k=g) w' bo inp st aN cN rN aO cO rO:=by
 have e:Ext M (fun k=>M k∨k=g) w w':=⟨hb.size,fun k hk _=>hb.block k hk,fun k hk hm=>hm.elim id (fun e=>by omega)⟩
 have hbl:∀k,B0≤k→M k→w'.heap[k]? =w.heap[k]? :=fun k h1 h2=>hb.block k (h.lt k h1 h2)
 exact ⟨fun q hq=> .inl (h.old q hq),.inl h.mbo,(hbl _ h.b0 h.mbo).trans h.blk,h.n.ext e (fun k hk=>hbl k (h.n.lt k hk).1 (h.mn k hk).1),h.o.ext e (fun k hk=>hbl k (h.o.lt k hk).1 (h.mo k hk).1),
  fun k hk=>⟨.inl (h.mn k hk).1,(h.mn k hk).2⟩,fun k hk=>⟨.inl (h.mo k hk).1,(h.mo k hk).2⟩,h.no,h.b0,fun q h1 h2=>h2.elim (fun h3=>Nat.lt_of_lt_of_le (h.lt q h1 h3) hb.size) (fun e=>e▸hg2)⟩
theorem Mk.write {g:Nat} (h:Mk B0 (fun k=>M k∨k=g) w bo inp st aN cN rN aO cO rO) (hM:¬M g) (hbo:M bo) (hn:∀k,(Value.slice aN rN.length cN).ownBlock=some k→M k) (ho:∀k,(Value.slice aO rO.length cO).ownBlock=some k→M k) (j:Nat) (u:Value):
    Mk B0 (fun k=>M k∨k=g) (w.setCell ⟨g,j,none⟩ u) bo inp st aN cN rN aO cO rO:=by
 have e:Ext (fun k=>M k∨k=g) (fun k=>M k∨k=g) w (w.setCell ⟨g,j,none⟩ u):=Ext.setCell w (p:=⟨g,j,none⟩) (.inr rfl) u
 have hb:∀k,M k→(w.setCell ⟨g,j,none⟩ u).heap[k]? =w.heap[k]? :=fun k hk=>Below.heap_setCell _ _ _ _ (fun e=>hM (by simp at e;exact e▸hk))
 exact ⟨h.old,h.mbo,(hb _ hbo).trans h.blk,h.n.ext e (fun k hk=>hb k (hn k hk)),h.o.ext e (fun k hk=>hb k (ho k hk)),h.mn,h.mo,h.no,h.b0,fun q h1 h2=>by have:=h.lt q h1 h2;simpa [World.setCell] using this⟩
theorem Mk.cells (h:Mk B0 M w bo inp st aN cN rN aO cO rO):w.cell? ⟨bo,0,none⟩=some (.int .i64 inp)∧w.cell? ⟨bo,1,none⟩=some (.int .i64 st)∧w.cell? ⟨bo,2,none⟩=some (.slice aN rN.length cN)∧w.cell? ⟨bo,3,none⟩=some (.slice aO rO.length cO)∧∀o,w.frozen? ⟨bo,o,none⟩=false:=by
 refine ⟨?_,?_,?_,?_,fun o=>frozen_of_row _ _ _ _ _ h.blk⟩<;>rw [cell_of_row _ _ _ _ _ _ h.blk]<;>rfl
theorem Mk.init (w:World) (inp st:Int):Mk w.heap.size (fun k=>k≤w.heap.size) (w.alloc (.cells #[.int .i64 inp,.int .i64 st,.slice none 0 0,.slice none 0 0] 41)) w.heap.size inp st none 0 [] none 0 []:=
 ⟨fun q hq=>Nat.le_of_lt hq,Nat.le_refl _,heap_alloc_new w _,Ow.nil,Ow.nil,fun k hk=>by simp [Value.ownBlock] at hk,fun k hk=>by simp [Value.ownBlock] at hk,fun k k' hk=>by simp [Value.ownBlock] at hk,Nat.le_refl _,
  fun q _ h2=>by simp;omega⟩
end
section
variable {M:Nat→Prop} {w:World}
theorem Sl.lit {xs:List Int} {vs:Array Value} {b n:Nat} {T:TypeId} (h:w.heap[b]? =some (.cells vs T (0,0))) (hv:vs.toList=xs.map (.int .i64)) (hM:¬M b) (hx:∀x∈xs,i64 x) (hn:n=xs.length) (hs:n≤maxLen):
    Sl M w (some ⟨b,0,none⟩) n xs:=by
 refine ⟨by omega,hs,fun j x hj=>⟨b,0,[.int .i64 x],rfl,?_,hM,⟨rfl,hx x (List.mem_of_getElem? hj)⟩,fun i u hi=> ?_⟩⟩
 ·exact (Array.getElem?_eq_some_iff.1 h).1
 obtain ⟨rfl, rfl⟩ : i = 0 ∧ u = .int .i64 x := by
  rcases i with _|i
  ·simpa using hi.symm
  simp at hi
 have e:vs[j]? =some (.int .i64 x):=by rw [←Array.getElem?_toList,hv,List.getElem?_map,hj];rfl
 rw [cell_of_row _ _ _ _ _ _ h]
 simpa [GR.sz] using e
theorem Sl.litr {rows:List (List Int)} {vs:Array Value} {b n:Nat} {T:TypeId} (h:w.heap[b]? =some (.cells vs T (0,0))) (hM:¬M b) (hn:n=rows.length) (hs:n≤maxLen)
    (hx:∀(j:Nat) (r:List Int),rows[j]? =some r→∃a c,vs[j]? =some (Value.slice a r.length c)∧Sl M w a c r):
    Sl M w (some ⟨b,0,none⟩) n rows:=by
 refine ⟨by omega,hs,fun j x hj=> ?_⟩
 obtain ⟨a,c,h1,h2⟩:=hx j x hj
 refine ⟨b,0,[.slice a x.length c],rfl,?_,hM,⟨a,c,rfl,h2⟩,fun i u hi=> ?_⟩
 ·exact (Array.getElem?_eq_some_iff.1 h).1
 obtain ⟨rfl, rfl⟩ : i = 0 ∧ u = .slice a x.length c := by
  rcases i with _|i
  ·simpa using hi.symm
  simp at hi
 rw [cell_of_row _ _ _ _ _ _ h]
 simpa [GR.sz] using h1
theorem heap_old {o o':Obj} {k:Nat} (h:w.heap[k]? =some o):(w.alloc o').heap[k]? =some o:=by
 rw [Below.heap_alloc _ _ _ (Array.getElem?_eq_some_iff.1 h).1];exact h
end
def sgn (x y:Int):Int:=if x<y then -1 else if y<x then 1 else 0
theorem sgn_lt {x y:Int} (h:x<y):sgn x y= -1:=by unfold sgn;rw [if_pos h]
theorem sgn_gt {x y:Int} (h:y<x):sgn x y=1:=by unfold sgn;rw [if_neg (by omega),if_pos h]
theorem sgn_eq {x y:Int} (h:x=y):sgn x y=0:=by unfold sgn;rw [if_neg (by omega),if_neg (by omega)]
def lexW:List Int→List Int→Int
 |[],[]=>0
 |[],_::_=> -1
 |_::_,[]=>1
 |x::xs,y::ys=>if x=y then lexW xs ys else sgn x y
def cmpW (a b:List Int):Int:=if a.length=b.length then lexW a b else sgn a.length b.length
theorem lexW_step {a b:List Int} {k:Nat} {x y:Int} (hx:a[k]? =some x) (hy:b[k]? =some y):lexW (a.drop k) (b.drop k)=if x=y then lexW (a.drop (k+1)) (b.drop (k+1)) else sgn x y:=by
 have ha:k<a.length:=by
  by_cases e:k<a.length
  ·exact e
  rw [List.getElem?_eq_none (by omega)] at hx;simp at hx
 have hb:k<b.length:=by
  by_cases e:k<b.length
  ·exact e
  rw [List.getElem?_eq_none (by omega)] at hy;simp at hy
 rw [List.getElem?_eq_getElem ha] at hx
 rw [List.getElem?_eq_getElem hb] at hy
 rw [List.drop_eq_getElem_cons ha,List.drop_eq_getElem_cons hb,show a[k]=x by simpa using hx,show b[k]=y by simpa using hy]
 rfl
theorem lexW_right {a b:List Int} {k:Nat} (ha:k<a.length) (hb:¬k<b.length):lexW (a.drop k) (b.drop k)=1:=by
 have hb2:b.drop k=[]:=List.drop_eq_nil_of_le (by omega)
 rw [hb2,List.drop_eq_getElem_cons ha];rfl
theorem lexW_end {a b:List Int} {k:Nat} (ha:¬k<a.length):lexW (a.drop k) (b.drop k)=if k<b.length then -1 else 0:=by
 rw [List.drop_eq_nil_of_le (by omega)]
 by_cases hb:k<b.length
 ·rw [List.drop_eq_getElem_cons hb,if_pos hb];rfl
 rw [List.drop_eq_nil_of_le (by omega),if_neg hb];rfl
section
variable {M:Nat→Prop} {w:World} {a b:Option Addr} {c d:Nat}
theorem nan_any (x:Int):Calls Tryz.prog 282 #[.int .i64 x] w fun e w'=>e= .returned (.bool false)∧w'=w:=by
 go_enter Tryz.func282,Tryz.ntmps282
 go_wp2
 go_ret
 exact ⟨rfl,rfl⟩
theorem ccmp_any (x y:Int):Calls Tryz.prog 186 #[.int .i64 x,.int .i64 y] w fun e w'=>e= .returned (.int .i64 (sgn x y))∧w'=w:=by
 rcases Int.lt_trichotomy x y with h|h|h
 ·rw [sgn_lt h]
  go_enter Tryz.func186,Tryz.ntmps186
  go_wp2_with (go_at_call 282;refine (nan_any _).mono ?_;rintro e w' ⟨rfl,rfl⟩)
  go_ret
  exact ⟨rfl,rfl⟩
 ·rw [sgn_eq h]
  subst h
  go_enter Tryz.func186,Tryz.ntmps186
  go_wp2_with (go_at_call 282;refine (nan_any _).mono ?_;rintro e w' ⟨rfl,rfl⟩)
  go_ret
  exact ⟨rfl,rfl⟩
 rw [sgn_gt h]
 have h2:¬x<y:=by omega
 go_enter Tryz.func186,Tryz.ntmps186
 go_wp2_with (go_at_call 282;refine (nan_any _).mono ?_;rintro e w' ⟨rfl,rfl⟩)
 go_ret
 exact ⟨rfl,rfl⟩
theorem ret_i {x y:Int} (h:x=y):Ending.returned (.int .i64 x)= .returned (.int .i64 y):=by rw [h]
theorem scmp_any {xs ys:List Int} (h1:Sl M w a c xs) (h2:Sl M w b d ys):
    Calls Tryz.prog 187 #[.slice a xs.length c,.slice b ys.length d] w fun e w'=>e= .returned (.int .i64 (lexW xs ys))∧w'=w:=by
 have hl1:=h1.le
 have hl2:=h2.le
 have hL0:Hid (lexW xs ys=lexW (xs.drop 0) (ys.drop 0)):=rfl
 go_enter Tryz.func187,Tryz.ntmps187
 go_wp2
 go_loop [11] (fun i=>∃k:Nat,k≤xs.length∧i= .int .i64 k∧Hid (lexW xs ys=lexW (xs.drop k) (ys.drop k))∧k≤ys.length) (fun i=>xs.length-(intOf i).toNat)
 case atStart=>exact ⟨0,by omega,rfl,hL0,by omega⟩
 case round=>
  clear hL0
  obtain ⟨k,hk,rfl,hL,hky⟩:=hrel
  by_cases hlt:k<xs.length
  ·obtain ⟨b1,o1,x,rfl,hxc,hx, -⟩:=h1.at_int hlt
   by_cases hly:k<ys.length
   ·obtain ⟨b2,o2,y,rfl,hyc,hy, -⟩:=h2.at_int hly
    have HS:=Lib.hid (lexW_step hx.out hy.out)
    have hge:¬ys.length≤k:=by omega
    rcases Int.lt_trichotomy x y with h|h|h
    ·have hs:=sgn_lt h
     have HF:Hid (lexW xs ys= -1):=by unfold Hid;rw [hL.out,HS.out,if_neg (by omega),hs]
     go_wp2_with (go_at_call 186;refine (ccmp_any _ _).mono ?_;rintro e w' ⟨rfl,rfl⟩)
     go_ret
     exact ⟨ret_i HF.out.symm,rfl⟩
    ·have hs:=sgn_eq h
     have HF:Hid (lexW xs ys=lexW (xs.drop (k+1)) (ys.drop (k+1))):=by unfold Hid;rw [hL.out,HS.out,if_pos h]
     clear h
     go_wp2_with (go_at_call 186;refine (ccmp_any _ _).mono ?_;rintro e w' ⟨rfl,rfl⟩)
     go_round
     case rel=>exact ⟨k+1,by omega,by go_num,HF,by omega⟩
     case measure=>simp [intOf];omega
    have hs:=sgn_gt h
    have HF:Hid (lexW xs ys=1):=by unfold Hid;rw [hL.out,HS.out,if_neg (by omega),hs]
    go_wp2_with (go_at_call 186;refine (ccmp_any _ _).mono ?_;rintro e w' ⟨rfl,rfl⟩)
    go_ret
    exact ⟨ret_i HF.out.symm,rfl⟩
   have HF:Hid (lexW xs ys=1):=by unfold Hid;rw [hL.out,lexW_right hlt hly]
   have hge:ys.length≤k:=by omega
   go_wp2
   go_ret
   exact ⟨ret_i HF.out.symm,rfl⟩
  have HE:=Lib.hid (lexW_end (a:=xs) (b:=ys) hlt)
  have hkx:k=xs.length:=by omega
  by_cases hly:xs.length<ys.length
  ·have HF:Hid (lexW xs ys= -1):=by unfold Hid;rw [hL.out,HE.out,if_pos (by omega)]
   clear hkx
   go_wp2
   go_ret
   exact ⟨ret_i HF.out.symm,rfl⟩
  have HF:Hid (lexW xs ys=0):=by unfold Hid;rw [hL.out,HE.out,if_neg (by omega)]
  clear hkx
  go_wp2
  go_ret
  exact ⟨ret_i HF.out.symm,rfl⟩
def orW (l:List Int):Int:=(l.find? fun x=>decide (x≠0)).getD 0
theorem orW_at {l:List Int} {k:Nat} {x:Int} (h:∀y∈l.take k,y=0) (hx:l[k]? =some x) (h0:x≠0):orW l=x:=by
 have hk:k<l.length:=by
  by_cases e:k<l.length
  ·exact e
  rw [List.getElem?_eq_none (by omega)] at hx;simp at hx
 have e:l=l.take k++x::l.drop (k+1):=by
  conv=>lhs;rw [←List.take_append_drop k l]
  rw [List.drop_eq_getElem_cons hk]
  rw [List.getElem?_eq_getElem hk] at hx
  rw [show l[k]=x by simpa using hx]
 unfold orW
 rw [e,List.find?_append]
 have:(l.take k).find? (fun x=>decide (x≠0))=none:=by
  rw [List.find?_eq_none];intro y hy;simp [h y hy]
 rw [this]
 simp [h0]
theorem orW_none {l:List Int} (h:∀y∈l,y=0):orW l=0:=by
 unfold orW
 have:l.find? (fun x=>decide (x≠0))=none:=by
  rw [List.find?_eq_none];intro y hy;simp [h y hy]
 rw [this];rfl
theorem or_any {l:List Int} (h:Sl M w a c l):Calls Tryz.prog 185 #[.slice a l.length c] w fun e w'=>e= .returned (.int .i64 (orW l))∧w'=w:=by
 have hl:=h.le
 have h0:Hid (∀y∈l.take 0,y=0):=fun y hy=>by simp at hy
 go_enter Tryz.func185,Tryz.ntmps185
 go_wp2
 go_loop [8] (fun i=>∃k:Nat,k≤l.length∧i= .int .i64 k∧Hid (∀y∈l.take k,y=0)) (fun i=>l.length-(intOf i).toNat)
 case atStart=>exact ⟨0,by omega,rfl,h0⟩
 case round=>
  clear h0
  obtain ⟨k,hk,rfl,hz⟩:=hrel
  by_cases hlt:k<l.length
  ·obtain ⟨b1,o1,x,rfl,hxc,hx, -⟩:=h.at_int hlt
   by_cases h0:x=0
   ·have hb:(x !=0)=false:=by simp [h0]
    have hz2:Hid (∀y∈l.take (k+1),y=0):=by
     intro y hy
     rw [List.take_add_one,hx.out] at hy
     simp only [Option.toList_some,List.mem_append,List.mem_singleton] at hy
     rcases hy with hy|rfl
     ·exact hz.out y hy
     exact h0
    clear h0
    go_wp2
    go_round
    case rel=>exact ⟨k+1,by omega,by go_num,hz2⟩
    case measure=>simp [intOf];omega
   have hb:(x !=0)=true:=by simp [h0]
   have HF:=Lib.hid (orW_at hz.out hx.out h0)
   clear h0
   go_wp2
   go_ret
   exact ⟨ret_i HF.out.symm,rfl⟩
  have HF:=Lib.hid (orW_none (l:=l) (by have:=hz.out;rwa [List.take_of_length_le (by omega)] at this))
  go_wp2
  go_ret
  exact ⟨ret_i HF.out.symm,rfl⟩
theorem lexW_range:∀(a b:List Int),lexW a b= -1∨lexW a b=0∨lexW a b=1
 |[],[]=>by simp [lexW]
 |[],_::_=>by simp [lexW]
 |_::_,[]=>by simp [lexW]
 |x::xs,y::ys=>by
  simp only [lexW]
  split
  ·exact lexW_range xs ys
  unfold sgn;split
  ·simp
  split<;>simp
theorem sgn_range (x y:Int):sgn x y= -1∨sgn x y=0∨sgn x y=1:=by unfold sgn;split<;>(try split)<;>simp
theorem cmpW_or (a b:List Int):orW [sgn a.length b.length,lexW a b]=cmpW a b:=by
 unfold cmpW orW
 by_cases h:a.length=b.length
 ·rw [if_pos h,sgn_eq (by rw [h])]
  rcases lexW_range a b with e|e|e<;>simp [e]
 rw [if_neg h]
 have:sgn (a.length:Int) b.length≠0:=by
  unfold sgn
  split
  ·simp
  split
  ·simp
  omega
 simp [this]
end
end Go.Proofs.YtjmbphjgiodioaaGreatDoor
namespace Go.Proofs.YtjmbphjgiodioaaGreatDoor
def comW:List Int→List Int→Nat
 |x::xs,y::ys=>if x=y then comW xs ys+1 else 0
 |[],_=>0
 |_::_,[]=>0
theorem comW_le:∀(a b:List Int),comW a b≤a.length∧comW a b≤b.length
 |[],b=>by cases b<;>simp [comW]
 |_::_,[]=>by simp [comW]
 |x::xs,y::ys=>by
  have:=comW_le xs ys
  simp only [comW,List.length_cons]
  split<;>omega
theorem comW_same {x:Int} {xs ys:List Int}:comW (x::xs) (x::ys)=comW xs ys+1:=by simp [comW]
theorem comW_diff {x y:Int} {xs ys:List Int} (h:x≠y):comW (x::xs) (y::ys)=0:=by simp [comW,h]
theorem comW_nil_r (a:List Int):comW a []=0:=by cases a<;>simp [comW]
theorem comW_nil_l (b:List Int):comW [] b=0:=by cases b<;>simp [comW]
theorem comW_step {a b:List Int} {k:Nat} {x:Int} (h:comW a b=k+comW (a.drop k) (b.drop k)) (hx:a[k]? =some x) (hy:b[k]? =some x):comW a b=(k+1)+comW (a.drop (k+1)) (b.drop (k+1)):=by
 have ha:k<a.length:=by
  by_cases e:k<a.length
  ·exact e
  rw [List.getElem?_eq_none (by omega)] at hx;simp at hx
 have hb:k<b.length:=by
  by_cases e:k<b.length
  ·exact e
  rw [List.getElem?_eq_none (by omega)] at hy;simp at hy
 rw [List.getElem?_eq_getElem ha] at hx
 rw [List.getElem?_eq_getElem hb] at hy
 rw [List.drop_eq_getElem_cons ha,List.drop_eq_getElem_cons hb,show a[k]=x by simpa using hx,show b[k]=x by simpa using hy,comW_same] at h
 omega
theorem comW_stop {a b:List Int} {k:Nat} {x y:Int} (h:comW a b=k+comW (a.drop k) (b.drop k)) (hx:a[k]? =some x) (hy:b[k]? =some y) (hxy:x≠y):comW a b=k:=by
 have ha:k<a.length:=by
  by_cases e:k<a.length
  ·exact e
  rw [List.getElem?_eq_none (by omega)] at hx;simp at hx
 have hb:k<b.length:=by
  by_cases e:k<b.length
  ·exact e
  rw [List.getElem?_eq_none (by omega)] at hy;simp at hy
 rw [List.getElem?_eq_getElem ha] at hx
 rw [List.getElem?_eq_getElem hb] at hy
 rw [List.drop_eq_getElem_cons ha,List.drop_eq_getElem_cons hb,show a[k]=x by simpa using hx,show b[k]=y by simpa using hy,comW_diff hxy] at h
 omega
theorem comW_end {a b:List Int} {k:Nat} (h:comW a b=k+comW (a.drop k) (b.drop k)) (hk:a.length≤k∨b.length≤k):comW a b=k:=by
 rcases hk with hk|hk
 ·rw [List.drop_eq_nil_of_le hk,comW_nil_l] at h;omega
 have h2:b.drop k=[]:=List.drop_eq_nil_of_le hk
 rw [h2,comW_nil_r] at h;omega
theorem lexW_com:∀(a b:List Int),lexW a b=lexW (a.drop (comW a b)) (b.drop (comW a b))
 |[],b=>by rw [comW_nil_l];simp
 |x::xs,[]=>by rw [comW_nil_r];simp
 |x::xs,y::ys=>by
  by_cases h:x=y
  ·subst h
   rw [comW_same]
   simp only [List.drop_succ_cons]
   rw [←lexW_com xs ys]
   simp [lexW]
  rw [comW_diff h];simp
theorem lexW_zero {a b:List Int} (ha:comW a b=a.length) (hb:comW a b=b.length):lexW a b=0:=by
 rw [lexW_com,List.drop_eq_nil_of_le (by omega)]
 have:b.drop (comW a b)=[]:=List.drop_eq_nil_of_le (by omega)
 rw [this];rfl
theorem lexW_short {a b:List Int} (ha:comW a b=a.length) (hb:¬comW a b=b.length):lexW a b= -1:=by
 have hle:=(comW_le a b).2
 rw [lexW_com,List.drop_eq_nil_of_le (by omega),List.drop_eq_getElem_cons (l:=b) (by omega)];rfl
theorem lexW_longer {a b:List Int} (ha:¬comW a b=a.length) (hb:comW a b=b.length):lexW a b=1:=by
 have hle:=(comW_le a b).1
 have:b.drop (comW a b)=[]:=List.drop_eq_nil_of_le (by omega)
 rw [lexW_com,this,List.drop_eq_getElem_cons (l:=a) (by omega)];rfl
theorem comW_ne:∀{a b:List Int} {x y:Int},a[comW a b]? =some x→b[comW a b]? =some y→x≠y
 |[],b,x,y,hx,_=>by simp at hx
 |u::xs,[],x,y,_,hy=>by simp at hy
 |u::xs,v::ys,x,y,hx,hy=>by
  by_cases h:u=v
  ·subst h
   rw [comW_same,List.getElem?_cons_succ] at hx hy
   exact comW_ne hx hy
  rw [comW_diff h,List.getElem?_cons_zero] at hx hy
  obtain rfl:u=x:=by simpa using hx
  obtain rfl:v=y:=by simpa using hy
  exact h
theorem lexW_at {a b:List Int} {x y:Int} (hx:a[comW a b]? =some x) (hy:b[comW a b]? =some y):lexW a b=sgn x y:=by
 have hne:=comW_ne hx hy
 rw [lexW_com,lexW_step hx hy,if_neg hne]
theorem comW_prefix {a b:List Int}:comW a b=b.length↔b<+:a:=by
 constructor
 ·intro h
  induction b generalizing a with
  |nil=>exact List.nil_prefix
  |cons y ys ih=>
   cases a with
   |nil=>rw [comW_nil_l] at h;simp at h
   |cons x xs=>
    by_cases e:x=y
    ·subst e
     rw [comW_same,List.length_cons] at h
     rw [List.cons_prefix_cons]
     exact ⟨rfl,ih (by omega)⟩
    rw [comW_diff e,List.length_cons] at h;omega
 rintro ⟨t,rfl⟩
 induction b with
 |nil=>rw [List.nil_append,comW_nil_r];rfl
 |cons y ys ih=>rw [List.cons_append,comW_same,ih];simp
theorem sgn_swap (x y:Int):sgn y x= -sgn x y:=by
 unfold sgn
 split<;>split<;>(try split)<;>omega
theorem sgn_zero {x y:Int} (h:sgn x y=0):x=y:=by
 unfold sgn at h
 split at h
 ·simp at h
 split at h
 ·simp at h
 omega
theorem lex_swap:∀(a b:List Int),lexW b a= -lexW a b
 |[],[]=>rfl
 |[],_::_=>rfl
 |_::_,[]=>rfl
 |x::a,y::b=>by
  simp only [lexW]
  by_cases h:x=y
  ·rw [if_pos h,if_pos h.symm];exact lex_swap a b
  rw [if_neg h,if_neg (Ne.symm h)];exact sgn_swap x y
theorem lex_same (a:List Int):lexW a a=0:=by
 induction a with
 |nil=>rfl
 |cons x a ih=>simp [lexW,ih]
theorem lex_zero:∀{a b:List Int},lexW a b=0→a=b
 |[],[],_=>rfl
 |[],_::_,h=>by simp [lexW] at h
 |_::_,[],h=>by simp [lexW] at h
 |x::a,y::b,h=>by
  simp only [lexW] at h
  by_cases e:x=y
  ·rw [if_pos e] at h;rw [e,lex_zero h]
  rw [if_neg e] at h;exact absurd (sgn_zero h) e
theorem sgn_neg {x y:Int}:sgn x y<0↔x<y:=by
 unfold sgn;split
 ·simp;omega
 split<;>simp<;>omega
theorem lex_trans:∀{a b c:List Int},lexW a b≤0→lexW b c≤0→lexW a c≤0∧(lexW a b<0→lexW a c<0)
 |[],b,[],h,h2=>by
  cases b with
  |nil=>simp [lexW]
  |cons y b=>simp [lexW] at h2
 |[],b,z::c,h,h2=>by simp [lexW]
 |x::a,[],c,h,h2=>by simp [lexW] at h
 |x::a,y::b,[],h,h2=>by simp [lexW] at h2
 |x::a,y::b,z::c,h,h2=>by
  simp only [lexW] at h h2 ⊢
  by_cases e:x=y
  ·subst e
   rw [if_pos rfl] at h ⊢
   by_cases e2:x=z
   ·rw [if_pos e2] at h2 ⊢
    exact lex_trans h h2
   rw [if_neg e2] at h2 ⊢
   have hr:=sgn_range x z
   have hz:sgn x z≠0:=fun h=>e2 (sgn_zero h)
   exact ⟨h2,fun _=>by omega⟩
  rw [if_neg e] at h ⊢
  have hr:=sgn_range x y
  have hz:sgn x y≠0:=fun h=>e (sgn_zero h)
  have h3:x<y:=sgn_neg.1 (by omega)
  have h4:x<z:=by
   by_cases e2:y=z
   ·omega
   rw [if_neg e2] at h2
   have hr:=sgn_range y z
   have hz:sgn y z≠0:=fun h=>e2 (sgn_zero h)
   have:=sgn_neg.1 (show sgn y z<0 by omega)
   omega
  rw [if_neg (by omega)]
  have:=sgn_neg.2 h4
  exact ⟨by omega,fun _=>this⟩
theorem cmp_swap (a b:List Int):cmpW b a= -cmpW a b:=by
 unfold cmpW
 by_cases h:a.length=b.length
 ·rw [if_pos h,if_pos h.symm,lex_swap]
 rw [if_neg h,if_neg (Ne.symm h),sgn_swap]
theorem cmp_same (a:List Int):cmpW a a=0:=by unfold cmpW;rw [if_pos rfl,lex_same]
theorem cmp_zero {a b:List Int} (h:cmpW a b=0):a=b:=by
 unfold cmpW at h
 split at h
 ·exact lex_zero h
 rename_i hl;have:=sgn_zero h;omega
theorem cmp_short {a b:List Int} (h:a.length<b.length):cmpW a b= -1:=by unfold cmpW;rw [if_neg (by omega),sgn_lt (by omega)]
theorem cmp_trans {a b c:List Int} (h:cmpW a b≤0) (h2:cmpW b c≤0):cmpW a c≤0∧(cmpW a b<0→cmpW a c<0):=by
 have key:∀{a b:List Int},cmpW a b≤0→a.length<b.length∨(a.length=b.length∧lexW a b≤0∧cmpW a b=lexW a b):=by
  intro a b h
  by_cases e:a.length=b.length
  ·right
   have e2:cmpW a b=lexW a b:=by unfold cmpW;rw [if_pos e]
   exact ⟨e,by omega,e2⟩
  left
  unfold cmpW at h
  rw [if_neg e] at h
  have hr:=sgn_range a.length b.length
  have hz:sgn (a.length:Int) b.length≠0:=fun h=>e (by have:=sgn_zero h;omega)
  have:=sgn_neg.1 (show sgn (a.length:Int) b.length<0 by omega)
  omega
 rcases key h with h1|⟨h1,h3,h4⟩
 ·have hl:a.length<c.length:=by rcases key h2 with h5|⟨h5,_,_⟩<;>omega
  rw [cmp_short hl];simp
 rcases key h2 with h5|⟨h5,h6,h7⟩
 ·rw [cmp_short (by omega)];simp
 have e2:cmpW a c=lexW a c:=by unfold cmpW;rw [if_pos (by omega)]
 rw [e2,h4]
 exact lex_trans h3 h6
end Go.Proofs.YtjmbphjgiodioaaGreatDoor
namespace Go.Proofs.YtjmbphjgiodioaaGreatDoor
open Go.RowKit
def wErr (w:List Int) (n:Int):Int:=if n<1∨1024<n then 2 else if 1024<w.length then 3 else if ∃a∈w,a<0∨n≤a then 1 else 0
theorem wErr_r {w:List Int} {n:Int} (h:n<1∨1024<n):wErr w n=2:=by unfold wErr;rw [if_pos h]
theorem wErr_l {w:List Int} {n:Int} (h:¬(n<1∨1024<n)) (h2:1024<w.length):wErr w n=3:=by unfold wErr;rw [if_neg h,if_pos h2]
theorem wErr_i {w:List Int} {n:Int} (h:¬(n<1∨1024<n)) (h2:¬1024<w.length) (h3:∃a∈w,a<0∨n≤a):wErr w n=1:=by unfold wErr;rw [if_neg h,if_neg h2,if_pos h3]
theorem wErr_0 {w:List Int} {n:Int} (h:¬(n<1∨1024<n)) (h2:¬1024<w.length) (h3:¬∃a∈w,a<0∨n≤a):wErr w n=0:=by unfold wErr;rw [if_neg h,if_neg h2,if_neg h3]
section
variable {M:Nat→Prop} {w:World} {a:Option Addr} {c:Nat}
theorem perm_yes (n:Int) (h:¬(n<1∨1024<n)):Calls Tryz.prog 104 #[.int .i64 n] w fun e w'=>e= .returned (.bool true)∧w'=w:=by
 have h1:1≤n:=by omega
 have h2:n≤1024:=by omega
 clear h
 go_enter Tryz.func104,Tryz.ntmps104
 go_wp2
 go_ret
 exact ⟨rfl,rfl⟩
theorem perm_no (n:Int) (h:n<1∨1024<n):Calls Tryz.prog 104 #[.int .i64 n] w fun e w'=>e= .returned (.bool false)∧w'=w:=by
 by_cases h0:1≤n
 ·have h1:¬n≤1024:=by omega
  clear h
  go_enter Tryz.func104,Tryz.ntmps104
  go_wp2
  go_ret
  exact ⟨rfl,rfl⟩
 clear h
 go_enter Tryz.func104,Tryz.ntmps104
 go_wp2
 go_ret
 exact ⟨rfl,rfl⟩
def badS (n x:Int):Bool:=decide (x<0∨n≤x)
theorem badS_t {n x:Int} (h:x<0∨n≤x):badS n x=true:=by simp [badS,h]
theorem badS_f {n x:Int} (h:¬(x<0∨n≤x)):badS n x=false:=by simp [badS,h]
theorem test_t {b:Nat} (n x:Int) (hc:w.cell? ⟨b,0,none⟩=some (.int .i64 n)) (h:x<0∨n≤x):Calls Tryz.prog 106 #[.int .i64 x,.pointer (some ⟨b,0,none⟩)] w fun e w'=>e= .returned (.bool true)∧w'=w:=by
 by_cases h0:x<0
 ·clear h
  go_enter Tryz.func106,Tryz.ntmps106
  go_wp2
  go_ret
  exact ⟨rfl,rfl⟩
 have h1:n≤x:=by omega
 clear h
 go_enter Tryz.func106,Tryz.ntmps106
 go_wp2
 go_ret
 exact ⟨rfl,rfl⟩
theorem test_f {b:Nat} (n x:Int) (hc:w.cell? ⟨b,0,none⟩=some (.int .i64 n)) (h:¬(x<0∨n≤x)):Calls Tryz.prog 106 #[.int .i64 x,.pointer (some ⟨b,0,none⟩)] w fun e w'=>e= .returned (.bool false)∧w'=w:=by
 have h0:¬x<0:=by omega
 have h1:¬n≤x:=by omega
 clear h
 go_enter Tryz.func106,Tryz.ntmps106
 go_wp2
 go_ret
 exact ⟨rfl,rfl⟩
theorem findIdx_at {l:List Int} {p:Int→Bool} {k:Nat} {x:Int} (hx:l[k]? =some x) (hp:p x=true) (hn:∀y∈l.take k,p y=false):l.findIdx p=k:=by
 have hk:k<l.length:=by
  by_cases e:k<l.length
  ·exact e
  rw [List.getElem?_eq_none (by omega)] at hx;simp at hx
 rw [List.findIdx_eq hk]
 refine ⟨by rw [List.getElem?_eq_getElem hk] at hx;rw [show l[k]=x by simpa using hx];exact hp,fun j hj=>hn _ ?_⟩
 rw [List.mem_iff_getElem?]
 exact ⟨j,by rw [List.getElem?_take,if_pos hj,List.getElem?_eq_getElem (by omega)]⟩
theorem take_bad {l:List Int} {p:Int→Bool} {k:Nat} {x:Int} (hx:l[k]? =some x) (hp:p x=false) (hn:∀y∈l.take k,p y=false):∀y∈l.take (k+1),p y=false:=by
 intro y hy
 rw [List.take_add_one,hx] at hy
 simp only [Option.toList_some,List.mem_append,List.mem_singleton] at hy
 rcases hy with hy|rfl
 ·exact hn y hy
 exact hp
theorem ret_ic {x y:Int} (h:x=y):Ending.returned (.int .i64 x)= .returned (.int .i64 y):=by rw [h]
theorem idx_yes {b:Nat} {l:List Int} (h:Sl M w a c l) (n:Int) (hc:w.cell? ⟨b,0,none⟩=some (.int .i64 n)) (hb:∃x∈l,x<0∨n≤x):
    Calls Tryz.prog 184 #[.slice a l.length c,.func (Fn.func 106) #[] #[.pointer (some ⟨b,0,none⟩)]] w fun e w'=>e= .returned (.int .i64 (l.findIdx (badS n)))∧w'=w:=by
 have hll:=h.le
 have HB:=Lib.hid hb
 have h0:Hid (∀y∈l.take 0,badS n y=false):=fun y hy=>by simp at hy
 clear hb
 go_enter Tryz.func184,Tryz.ntmps184
 go_wp2
 go_loop [8] (fun i=>∃k:Nat,k≤l.length∧i= .int .i64 k∧Hid (∀y∈l.take k,badS n y=false)) (fun i=>l.length-(intOf i).toNat)
 case atStart=>exact ⟨0,by omega,rfl,h0⟩
 case round=>
  clear h0
  obtain ⟨k,hk,rfl,hz⟩:=hrel
  have hlt:k<l.length:=by
   by_cases e:k<l.length
   ·exact e
   obtain ⟨x,hx,hx2⟩:=HB.out
   have:=hz.out x (by rw [List.take_of_length_le (by omega)];exact hx)
   rw [badS_t hx2] at this;cases this
  obtain ⟨b1,o1,x,rfl,hxc,hx, -⟩:=h.at_int hlt
  by_cases hbad:x<0∨n≤x
  ·have HF:=Lib.hid (findIdx_at (p:=badS n) hx.out (badS_t hbad) hz.out)
   have HD:=Lib.hid hbad
   clear hbad
   go_wp2_with fail
   refine (test_t n x hc HD.out).mono ?_
   rintro e w2 ⟨rfl,hw⟩
   obtain rfl:w=w2:=hw.symm
   go_wp2
   go_ret
   exact ⟨ret_ic (by rw [HF.out]),rfl⟩
  have hz2:Hid (∀y∈l.take (k+1),badS n y=false):=take_bad hx.out (badS_f hbad) hz.out
  have HD:=Lib.hid hbad
  clear hbad
  go_wp2_with fail
  refine (test_f n x hc HD.out).mono ?_
  rintro e w2 ⟨rfl,hw⟩
  obtain rfl:w=w2:=hw.symm
  go_wp2
  go_round
  case rel=>exact ⟨k+1,by omega,by go_num,hz2⟩
  case measure=>simp [intOf];omega
theorem idx_no {b:Nat} {l:List Int} (h:Sl M w a c l) (n:Int) (hc:w.cell? ⟨b,0,none⟩=some (.int .i64 n)) (hb:¬∃x∈l,x<0∨n≤x):
    Calls Tryz.prog 184 #[.slice a l.length c,.func (Fn.func 106) #[] #[.pointer (some ⟨b,0,none⟩)]] w fun e w'=>e= .returned (.int .i64 (-1))∧w'=w:=by
 have hll:=h.le
 have HB:=Lib.hid hb
 clear hb
 go_enter Tryz.func184,Tryz.ntmps184
 go_wp2
 go_loop [8] (fun i=>∃k:Nat,k≤l.length∧i= .int .i64 k) (fun i=>l.length-(intOf i).toNat)
 case atStart=>exact ⟨0,by omega,rfl⟩
 case round=>
  obtain ⟨k,hk,rfl⟩:=hrel
  by_cases hlt:k<l.length
  ·obtain ⟨b1,o1,x,rfl,hxc,hx, -⟩:=h.at_int hlt
   have HD:=Lib.hid (show ¬(x<0∨n≤x) from fun e=>HB.out ⟨x,List.mem_of_getElem? hx.out,e⟩)
   go_wp2_with fail
   refine (test_f n x hc HD.out).mono ?_
   rintro e w2 ⟨rfl,hw⟩
   obtain rfl:w=w2:=hw.symm
   go_wp2
   go_round
   case rel=>exact ⟨k+1,by omega,by go_num⟩
   case measure=>simp [intOf];omega
  go_wp2
  go_ret
  exact ⟨rfl,rfl⟩
theorem cont_yes {b:Nat} {l:List Int} (h:Sl M w a c l) (n:Int) (hc:w.cell? ⟨b,0,none⟩=some (.int .i64 n)) (hb:∃x∈l,x<0∨n≤x):
    Calls Tryz.prog 105 #[.slice a l.length c,.func (Fn.func 106) #[] #[.pointer (some ⟨b,0,none⟩)]] w fun e w'=>e= .returned (.bool true)∧w'=w:=by
 have HI:=Lib.hid (idx_yes h n hc hb)
 clear hb hc
 go_enter Tryz.func105,Tryz.ntmps105
 go_wp2_with fail
 refine (HI.out).mono ?_
 rintro e w2 ⟨rfl,hw⟩
 obtain rfl:w=w2:=hw.symm
 go_wp2
 go_ret
 exact ⟨rfl,rfl⟩
theorem cont_no {b:Nat} {l:List Int} (h:Sl M w a c l) (n:Int) (hc:w.cell? ⟨b,0,none⟩=some (.int .i64 n)) (hb:¬∃x∈l,x<0∨n≤x):
    Calls Tryz.prog 105 #[.slice a l.length c,.func (Fn.func 106) #[] #[.pointer (some ⟨b,0,none⟩)]] w fun e w'=>e= .returned (.bool false)∧w'=w:=by
 have HI:=Lib.hid (idx_no h n hc hb)
 clear hb hc
 go_enter Tryz.func105,Tryz.ntmps105
 go_wp2_with fail
 refine (HI.out).mono ?_
 rintro e w2 ⟨rfl,hw⟩
 obtain rfl:w=w2:=hw.symm
 go_wp2
 go_ret
 exact ⟨rfl,rfl⟩
theorem wcheck_any {l:List Int} (h:Sl M w a c l) (n:Int):
    Calls Tryz.prog 62 #[.slice a l.length c,.int .i64 n] w fun e w'=>e= .returned (.int .i64 (wErr l n))∧Below w.heap.size w w':=by
 have hll:=h.le
 have hS:=h.alloc (.cells #[.int .i64 n] 3)
 have hB:=(Below.refl w.heap.size w).alloc (Nat.le_refl _) (.cells #[.int .i64 n] 3)
 have hcell:(w.alloc (.cells #[.int .i64 n] 3)).cell? ⟨w.heap.size,0,none⟩=some (.int .i64 n):=by simp
 by_cases hn:n<1∨1024<n
 ·have HF:=Lib.hid (wErr_r (w:=l) hn)
  have HP:=Lib.hid (perm_no (w:=w.alloc (.cells #[.int .i64 n] 3)) n hn)
  clear hn
  go_enter Tryz.func62,Tryz.ntmps62
  go_wp2_with fail
  refine (HP.out).mono ?_
  rintro e w1 ⟨rfl,hw⟩
  subst hw
  go_wp2
  go_ret
  exact ⟨ret_ic HF.out.symm,hB⟩
 have HP:=Lib.hid (perm_yes (w:=w.alloc (.cells #[.int .i64 n] 3)) n hn)
 by_cases hl:1024<l.length
 ·have HF:=Lib.hid (wErr_l hn hl)
  clear hn
  go_enter Tryz.func62,Tryz.ntmps62
  go_wp2_with fail
  refine (HP.out).mono ?_
  rintro e w1 ⟨rfl,hw⟩
  subst hw
  go_wp2
  go_ret
  exact ⟨ret_ic HF.out.symm,hB⟩
 by_cases hb:∃x∈l,x<0∨n≤x
 ·have HF:=Lib.hid (wErr_i hn hl hb)
  have HC:=Lib.hid (cont_yes hS n hcell hb)
  clear hn hb
  go_enter Tryz.func62,Tryz.ntmps62
  go_wp2_with fail
  refine (HP.out).mono ?_
  rintro e w1 ⟨rfl,hw⟩
  subst hw
  go_wp2_with fail
  refine (HC.out).mono ?_
  rintro e w1 ⟨rfl,hw⟩
  subst hw
  go_wp2
  go_ret
  exact ⟨ret_ic HF.out.symm,hB⟩
 have HF:=Lib.hid (wErr_0 hn hl hb)
 have HC:=Lib.hid (cont_no hS n hcell hb)
 clear hn hb
 go_enter Tryz.func62,Tryz.ntmps62
 go_wp2_with fail
 refine (HP.out).mono ?_
 rintro e w1 ⟨rfl,hw⟩
 subst hw
 go_wp2_with fail
 refine (HC.out).mono ?_
 rintro e w1 ⟨rfl,hw⟩
 subst hw
 go_wp2
 go_ret
 exact ⟨ret_ic HF.out.symm,hB⟩
end
section
variable {M:Nat→Prop} {w:World} {a:Option Addr} {c:Nat}
theorem size_yes (n:Int) (h:¬(n<1∨1024<n)):Calls Tryz.prog 124 #[.int .i64 n] w fun e w'=>e= .returned (.bool true)∧w'=w:=by
 have h1:1≤n:=by omega
 have h2:n≤1024:=by omega
 clear h
 go_enter Tryz.func124,Tryz.ntmps124
 go_wp2
 go_ret
 exact ⟨rfl,rfl⟩
theorem size_no (n:Int) (h:n<1∨1024<n):Calls Tryz.prog 124 #[.int .i64 n] w fun e w'=>e= .returned (.bool false)∧w'=w:=by
 by_cases h0:1≤n
 ·have h1:¬n≤1024:=by omega
  clear h
  go_enter Tryz.func124,Tryz.ntmps124
  go_wp2
  go_ret
  exact ⟨rfl,rfl⟩
 clear h
 go_enter Tryz.func124,Tryz.ntmps124
 go_wp2
 go_ret
 exact ⟨rfl,rfl⟩
theorem checkR1_any {l:List Int} (h:Sl M w a c l) (n:Int):
    Calls Tryz.prog 76 #[.slice a l.length c,.int .i64 n] w fun e w'=>e= .returned (.int .i64 (wErr l n))∧w'=w:=by
 have hll:=h.le
 by_cases hn:n<1∨1024<n
 ·have HF:=Lib.hid (wErr_r (w:=l) hn)
  have HP:=Lib.hid (size_no (w:=w) n hn)
  clear hn
  go_enter Tryz.func76,Tryz.ntmps76
  go_wp2_with fail
  refine (HP.out).mono ?_
  rintro e w1 ⟨rfl,hw⟩
  obtain rfl:w=w1:=hw.symm
  go_wp2
  go_ret
  exact ⟨ret_ic HF.out.symm,rfl⟩
 have HP:=Lib.hid (size_yes (w:=w) n hn)
 by_cases hl:1024<l.length
 ·have HF:=Lib.hid (wErr_l hn hl)
  clear hn
  go_enter Tryz.func76,Tryz.ntmps76
  go_wp2_with fail
  refine (HP.out).mono ?_
  rintro e w1 ⟨rfl,hw⟩
  obtain rfl:w=w1:=hw.symm
  go_wp2
  go_ret
  exact ⟨ret_ic HF.out.symm,rfl⟩
 have HI:=Lib.hid (fun hb=>wErr_i (w:=l) (n:=n) hn hl hb)
 have H0:=Lib.hid (fun hb=>wErr_0 (w:=l) (n:=n) hn hl hb)
 have hz:Hid (∀y∈l.take 0,badS n y=false):=fun y hy=>by simp at hy
 clear hn
 go_enter Tryz.func76,Tryz.ntmps76
 go_wp2_with fail
 refine (HP.out).mono ?_
 rintro e w1 ⟨rfl,hw⟩
 obtain rfl:w=w1:=hw.symm
 go_wp2
 go_loop [5] (fun i=>∃k:Nat,k≤l.length∧i= .int .i64 k∧Hid (∀y∈l.take k,badS n y=false)) (fun i=>l.length-(intOf i).toNat)
 case atStart=>exact ⟨0,by omega,rfl,hz⟩
 case round=>
  clear hz
  obtain ⟨k,hk,rfl,hz⟩:=hrel
  by_cases hlt:k<l.length
  ·obtain ⟨b1,o1,x,rfl,hxc,hx, -⟩:=h.at_int hlt
   by_cases h0:x<0
   ·have HF:=Lib.hid (HI.out ⟨x,List.mem_of_getElem? hx.out,.inl h0⟩)
    go_wp2
    go_ret
    exact ⟨ret_ic HF.out.symm,rfl⟩
   by_cases h1:n≤x
   ·have HF:=Lib.hid (HI.out ⟨x,List.mem_of_getElem? hx.out,.inr h1⟩)
    go_wp2
    go_ret
    exact ⟨ret_ic HF.out.symm,rfl⟩
   have hz2:Hid (∀y∈l.take (k+1),badS n y=false):=take_bad hx.out (badS_f (by omega)) hz.out
   go_wp2
   go_round
   case rel=>exact ⟨k+1,by omega,by go_num,hz2⟩
   case measure=>simp [intOf];omega
  have HF := Lib.hid (H0.out (fun ⟨x, hx, hb⟩ => by
   have:=hz.out x (by rw [List.take_of_length_le (by omega)];exact hx)
   rw [badS_t hb] at this;cases this))
  go_wp2
  go_ret
  exact ⟨ret_ic HF.out.symm,rfl⟩
end
section
variable {M:Nat→Prop} {w:World} {a b:Option Addr} {c d:Nat}
theorem sl_drw {α:Type} [GR α] {M:Nat→Prop} {w wr:World} {a:Option Addr} {c:Nat} {l:List α} (h:Hid (∃n,wr=w.drewN n)) (hs:Sl M w a c l):Sl M wr a c l:=by
 obtain ⟨n,e⟩:=h.out;rw [e];exact hs.drewN n
theorem drw_add {w wr:World} (h:Hid (∃n,wr=w.drewN n)) (m:Nat):Hid (∃n,wr.drewN m=w.drewN n):=by
 obtain ⟨n,rfl⟩:=h.out
 exact ⟨_,World.drewN_drewN _ _ _⟩
theorem comR_any {xs ys:List Int} (h1:Sl M w a c xs) (h2:Sl M w b d ys):
    Calls Tryz.prog 193 #[.slice a xs.length c,.slice b ys.length d] w fun e w'=>e= .returned (.int .i64 (comW xs ys))∧Hid (∃n,w'=w.drewN n):=by
 have hl1:=h1.le
 have hl2:=h2.le
 have hC0:Hid (comW xs ys=0+comW (xs.drop 0) (ys.drop 0)):=by unfold Hid;simp
 have hD0:Hid (∃n,w=w.drewN n):=⟨0,rfl⟩
 go_enter Tryz.func193,Tryz.ntmps193
 go_wp2
 go_loopw [5] (fun i wr=>∃k:Nat,k≤xs.length∧k≤ys.length∧i= .int .i64 k∧Hid (comW xs ys=k+comW (xs.drop k) (ys.drop k))∧Hid (∃n,wr=w.drewN n)) (fun i _=>xs.length-(intOf i).toNat)
 case atStart=>exact ⟨0,by omega,by omega,rfl,hC0,hD0⟩
 case round=>
  clear hC0 hD0
  obtain ⟨k,hkx,hky,rfl,hC,hD⟩:=hrel
  obtain ⟨w1,rfl⟩:∃w1:World,w1=wr:=⟨_,rfl⟩
  by_cases hx:k<xs.length
  ·have hxd:decide (k<xs.length)=true:=by simp [hx]
   by_cases hy:k<ys.length
   ·have hyd:decide (k<ys.length)=true:=by simp [hy]
    obtain ⟨b1,o1,x,rfl,hxc,hxk, -⟩:=(sl_drw hD h1).at_int hx
    obtain ⟨b2,o2,y,rfl,hyc,hyk, -⟩:=(sl_drw hD h2).at_int hy
    by_cases hxy:x=y
    ·have hb:(x==y)=true:=by simp [hxy]
     have hC2:Hid (comW xs ys=(k+1)+comW (xs.drop (k+1)) (ys.drop (k+1))):=comW_step hC.out hxk.out (by rw [hxy];exact hyk.out)
     clear hxy
     go_wp2
     refine wp_quiet_fast (by kernel_rfl) (by kernel_rfl) ?_
     repeat (first|go_big_quiet_step (fail)|quiet_step (fail))
     refine wpQuiet_nil ?_
     intro _ hw'
     obtain ⟨nq,hw''⟩:=hw'
     subst hw''
     go_wp2
     go_roundw
     case rel=>exact ⟨k+1,by omega,by omega,by go_num,hC2,drw_add hD _⟩
     case measure=>simp [intOf];omega
    have hb:(x==y)=false:=by simp [hxy]
    have HF:=Lib.hid (comW_stop hC.out hxk.out hyk.out hxy)
    clear hxy
    go_wp2
    refine wp_quiet_fast (by kernel_rfl) (by kernel_rfl) ?_
    repeat (first|go_big_quiet_step (fail)|quiet_step (fail))
    refine wpQuiet_nil ?_
    intro _ hw'
    obtain ⟨nq,hw''⟩:=hw'
    subst hw''
    go_wp2
    go_ret
    exact ⟨ret_i (by rw [HF.out]),drw_add hD _⟩
   have hyd:decide (k<ys.length)=false:=by simp;omega
   have HF:=Lib.hid (comW_end hC.out (.inr (by omega)))
   go_wp2
   refine wp_quiet_fast (by kernel_rfl) (by kernel_rfl) ?_
   repeat (first|go_big_quiet_step (fail)|quiet_step (fail))
   refine wpQuiet_nil ?_
   intro _ hw'
   obtain ⟨nq,hw''⟩:=hw'
   subst hw''
   go_wp2
   go_ret
   exact ⟨ret_i (by rw [HF.out]),drw_add hD _⟩
  have hxd:decide (k<xs.length)=false:=by simp;omega
  have HF:=Lib.hid (comW_end hC.out (.inl (by omega)))
  go_wp2
  refine wp_quiet_fast (by kernel_rfl) (by kernel_rfl) ?_
  repeat (first|go_big_quiet_step (fail)|quiet_step (fail))
  refine wpQuiet_nil ?_
  intro _ hw'
  obtain ⟨nq,hw''⟩:=hw'
  subst hw''
  go_wp2
  go_ret
  exact ⟨ret_i (by rw [HF.out]),drw_add hD _⟩
theorem com_any {xs ys:List Int} (h1:Sl M w a c xs) (h2:Sl M w b d ys):
    Calls Tryz.prog 114 #[.slice a xs.length c,.slice b ys.length d] w fun e w'=>e= .returned (.int .i64 (comW xs ys))∧Hid (∃n,w'=w.drewN n):=by
 have hl1:=h1.le
 have hl2:=h2.le
 have hC0:Hid (comW xs ys=0+comW (xs.drop 0) (ys.drop 0)):=by unfold Hid;simp
 have hD0:Hid (∃n,w=w.drewN n):=⟨0,rfl⟩
 go_enter Tryz.func114,Tryz.ntmps114
 go_wp2
 ·go_loopw [11] (fun i wr=>∃k:Nat,k≤xs.length∧k≤ys.length∧i= .int .i64 k∧Hid (comW xs ys=k+comW (xs.drop k) (ys.drop k))∧Hid (∃n,wr=w.drewN n)) (fun i _=>ys.length-(intOf i).toNat)
  case atStart=>exact ⟨0,by omega,by omega,rfl,hC0,hD0⟩
  case round=>
   clear hC0 hD0
   obtain ⟨k,hkx,hky,rfl,hC,hD⟩:=hrel
   obtain ⟨w1,rfl⟩:∃w1:World,w1=wr:=⟨_,rfl⟩
   by_cases hk:k<ys.length
   ·have hx:k<xs.length:=by omega
    have hy:k<ys.length:=by omega
    obtain ⟨b1,o1,x,rfl,hxc,hxk, -⟩:=(sl_drw hD h1).at_int hx
    obtain ⟨b2,o2,y,rfl,hyc,hyk, -⟩:=(sl_drw hD h2).at_int hy
    by_cases hxy:x=y
    ·have hb:(x !=y)=false:=by simp [hxy]
     have hC2:Hid (comW xs ys=(k+1)+comW (xs.drop (k+1)) (ys.drop (k+1))):=comW_step hC.out hxk.out (by rw [hxy];exact hyk.out)
     clear hxy
     go_wp2
     refine wp_quiet_fast (by kernel_rfl) (by kernel_rfl) ?_
     repeat (first|go_big_quiet_step (fail)|quiet_step (fail))
     refine wpQuiet_nil ?_
     intro _ hw'
     obtain ⟨nq,hw''⟩:=hw'
     subst hw''
     go_wp2
     go_roundw
     case rel=>exact ⟨k+1,by omega,by omega,by go_num,hC2,drw_add hD _⟩
     case measure=>simp [intOf];omega
    have hb:(x !=y)=true:=by simp [hxy]
    have HF:=Lib.hid (comW_stop hC.out hxk.out hyk.out hxy)
    clear hxy
    go_wp2
    refine wp_quiet_fast (by kernel_rfl) (by kernel_rfl) ?_
    repeat (first|go_big_quiet_step (fail)|quiet_step (fail))
    refine wpQuiet_nil ?_
    intro _ hw'
    obtain ⟨nq,hw''⟩:=hw'
    subst hw''
    go_wp2
    go_ret
    exact ⟨ret_i (by rw [HF.out]),drw_add hD _⟩
   have HF:=Lib.hid (comW_end hC.out (by omega))
   have hkB:Hid (k=ys.length):=by unfold Hid;omega
   go_wp2
   all_goals
    first
     |(exfalso;omega)
     |(go_ret;exact ⟨ret_i (by rw [HF.out,hkB.out]),hD⟩)
 go_loopw [11] (fun i wr=>∃k:Nat,k≤xs.length∧k≤ys.length∧i= .int .i64 k∧Hid (comW xs ys=k+comW (xs.drop k) (ys.drop k))∧Hid (∃n,wr=w.drewN n)) (fun i _=>xs.length-(intOf i).toNat)
 case atStart=>exact ⟨0,by omega,by omega,rfl,hC0,hD0⟩
 case round=>
  clear hC0 hD0
  obtain ⟨k,hkx,hky,rfl,hC,hD⟩:=hrel
  obtain ⟨w1,rfl⟩:∃w1:World,w1=wr:=⟨_,rfl⟩
  by_cases hk:k<xs.length
  ·have hx:k<xs.length:=by omega
   have hy:k<ys.length:=by omega
   obtain ⟨b1,o1,x,rfl,hxc,hxk, -⟩:=(sl_drw hD h1).at_int hx
   obtain ⟨b2,o2,y,rfl,hyc,hyk, -⟩:=(sl_drw hD h2).at_int hy
   by_cases hxy:x=y
   ·have hb:(x !=y)=false:=by simp [hxy]
    have hC2:Hid (comW xs ys=(k+1)+comW (xs.drop (k+1)) (ys.drop (k+1))):=comW_step hC.out hxk.out (by rw [hxy];exact hyk.out)
    clear hxy
    go_wp2
    refine wp_quiet_fast (by kernel_rfl) (by kernel_rfl) ?_
    repeat (first|go_big_quiet_step (fail)|quiet_step (fail))
    refine wpQuiet_nil ?_
    intro _ hw'
    obtain ⟨nq,hw''⟩:=hw'
    subst hw''
    go_wp2
    go_roundw
    case rel=>exact ⟨k+1,by omega,by omega,by go_num,hC2,drw_add hD _⟩
    case measure=>simp [intOf];omega
   have hb:(x !=y)=true:=by simp [hxy]
   have HF:=Lib.hid (comW_stop hC.out hxk.out hyk.out hxy)
   clear hxy
   go_wp2
   refine wp_quiet_fast (by kernel_rfl) (by kernel_rfl) ?_
   repeat (first|go_big_quiet_step (fail)|quiet_step (fail))
   refine wpQuiet_nil ?_
   intro _ hw'
   obtain ⟨nq,hw''⟩:=hw'
   subst hw''
   go_wp2
   go_ret
   exact ⟨ret_i (by rw [HF.out]),drw_add hD _⟩
  have HF:=Lib.hid (comW_end hC.out (by omega))
  have hkB:Hid (k=xs.length):=by unfold Hid;omega
  go_wp2
  all_goals
   first
    |(exfalso;omega)
    |(go_ret;exact ⟨ret_i (by rw [HF.out,hkB.out]),hD⟩)
end
theorem com_all {xs ys:List Int} (hl:xs.length=ys.length):comW xs ys=xs.length↔xs=ys:=by
 rw [hl,comW_prefix]
 constructor
 ·intro h;exact (h.eq_of_length hl.symm).symm
 rintro rfl;exact List.prefix_refl _
section
variable {M:Nat→Prop} {w:World} {a b:Option Addr} {c d:Nat}
theorem lex_any {xs ys:List Int} (h1:Sl M w a c xs) (h2:Sl M w b d ys):
    Calls Tryz.prog 112 #[.slice a xs.length c,.slice b ys.length d] w fun e w'=>e= .returned (.int .i64 (lexW xs ys))∧w'=w:=by
 go_enter Tryz.func112,Tryz.ntmps112
 go_wp2_with fail
 refine (scmp_any h1 h2).mono ?_
 rintro e w1 ⟨rfl,hw⟩
 obtain rfl:w=w1:=hw.symm
 go_wp2
 go_ret
 exact ⟨rfl,rfl⟩
theorem hasp_any {xs ys:List Int} (h1:Sl M w a c xs) (h2:Sl M w b d ys):
    Calls Tryz.prog 68 #[.slice a xs.length c,.slice b ys.length d] w fun e w'=>e= .returned (.bool (decide (comW xs ys=ys.length)))∧Hid (∃n,w'=w.drewN n):=by
 by_cases h:comW xs ys=ys.length
 ·rw [decide_eq_true h]
  have hb:(((comW xs ys:Nat):Int)==((ys.length:Nat):Int))=true:=by simp [h]
  have HC:=Lib.hid (com_any h1 h2)
  clear h
  go_enter Tryz.func68,Tryz.ntmps68
  go_wp2_with fail
  refine (HC.out).mono ?_
  rintro e w1 ⟨rfl,hD⟩
  go_wp2
  go_ret
  exact ⟨rfl,hD⟩
 rw [decide_eq_false h]
 have hb:(((comW xs ys:Nat):Int)==((ys.length:Nat):Int))=false:=by simp;omega
 have HC:=Lib.hid (com_any h1 h2)
 clear h
 go_enter Tryz.func68,Tryz.ntmps68
 go_wp2_with fail
 refine (HC.out).mono ?_
 rintro e w1 ⟨rfl,hD⟩
 go_wp2
 go_ret
 exact ⟨rfl,hD⟩
theorem haspR_any {xs ys:List Int} (h1:Sl M w a c xs) (h2:Sl M w b d ys):
    Calls Tryz.prog 126 #[.slice a xs.length c,.slice b ys.length d] w fun e w'=>e= .returned (.bool (decide (comW xs ys=ys.length)))∧Hid (∃n,w'=w.drewN n):=by
 by_cases h:comW xs ys=ys.length
 ·rw [decide_eq_true h]
  have hb:(((comW xs ys:Nat):Int)==((ys.length:Nat):Int))=true:=by simp [h]
  have HC:=Lib.hid (comR_any h1 h2)
  clear h
  go_enter Tryz.func126,Tryz.ntmps126
  go_wp2_with fail
  refine (HC.out).mono ?_
  rintro e w1 ⟨rfl,hD⟩
  go_wp2
  go_ret
  exact ⟨rfl,hD⟩
 rw [decide_eq_false h]
 have hb:(((comW xs ys:Nat):Int)==((ys.length:Nat):Int))=false:=by simp;omega
 have HC:=Lib.hid (comR_any h1 h2)
 clear h
 go_enter Tryz.func126,Tryz.ntmps126
 go_wp2_with fail
 refine (HC.out).mono ?_
 rintro e w1 ⟨rfl,hD⟩
 go_wp2
 go_ret
 exact ⟨rfl,hD⟩
theorem same1_any {xs ys:List Int} (h1:Sl M w a c xs) (h2:Sl M w b d ys):
    Calls Tryz.prog 299 #[.slice a xs.length c,.slice b ys.length d] w fun e w'=>e= .returned (.bool (decide (xs=ys)))∧Hid (∃n,w'=w.drewN n):=by
 have hD0:Hid (∃n,w=w.drewN n):=⟨0,rfl⟩
 by_cases hl:xs.length=ys.length
 ·have hlb:(((xs.length:Nat):Int)==((ys.length:Nat):Int))=true:=by simp [hl]
  have HC:=Lib.hid (comR_any h1 h2)
  have HA:=Lib.hid (com_all hl)
  by_cases h:xs=ys
  ·rw [decide_eq_true h]
   have hb:(((comW xs ys:Nat):Int)==((xs.length:Nat):Int))=true:=by have:=HA.out.2 h;simp [this]
   clear h hl
   go_enter Tryz.func299,Tryz.ntmps299
   go_wp2_with fail
   refine (HC.out).mono ?_
   rintro e w1 ⟨rfl,hD⟩
   go_wp2
   go_ret
   exact ⟨rfl,hD⟩
  rw [decide_eq_false h]
  have hb:(((comW xs ys:Nat):Int)==((xs.length:Nat):Int))=false:=by
   have h3:¬comW xs ys=xs.length:=fun e=>h (HA.out.1 e)
   simp;omega
  clear h hl
  go_enter Tryz.func299,Tryz.ntmps299
  go_wp2_with fail
  refine (HC.out).mono ?_
  rintro e w1 ⟨rfl,hD⟩
  go_wp2
  go_ret
  exact ⟨rfl,hD⟩
 have hlb:(((xs.length:Nat):Int)==((ys.length:Nat):Int))=false:=by simp;omega
 rw [decide_eq_false (fun e=>hl (by rw [e]))]
 clear hl
 go_enter Tryz.func299,Tryz.ntmps299
 go_wp2
 go_ret
 exact ⟨rfl,hD0⟩
end
section
variable {M M' M'':Nat→Prop} {w:World} {a a' a'':Option Addr} {c c' c'':Nat} {T:TypeId}
theorem sl_new {α:Type} [GR α] {l:List α} (h:Sl M w a c l) (o:Obj):Sl (fun _=>False) (w.alloc o) a c l:=(h.anti (M':=fun _=>False) fun _ _ h=>h.elim).alloc o
theorem rows1 {r:List Int} {n:Nat} (h:Sl M w a c r) (hn:n=r.length):Sl (fun _=>False) (w.alloc (.cells #[.slice a n c] T)) (some ⟨w.heap.size,0,none⟩) 1 [r]:=by
 subst hn
 refine Sl.litr (heap_alloc_new _ _) id rfl (by unfold maxLen;omega) fun j x hj=> ?_
 match j,hj with
 |0,hj=>simp at hj;subst hj;exact ⟨a,c,rfl,sl_new h _⟩
end
theorem set3 {w:World} {g:Nat} {x0 x1 x2 y0 y1 y2:Value} {T:TypeId} (h:w.heap[g]? =some (.cells #[x0,x1,x2] T (0,0))):
    (((w.setCell ⟨g,0,none⟩ y0).setCell ⟨g,1,none⟩ y1).setCell ⟨g,2,none⟩ y2).heap[g]? =some (.cells #[y0,y1,y2] T (0,0)):=by
 rw [heap_setCell_same _ _ _ _ _ _ (heap_setCell_same _ _ _ _ _ _ (heap_setCell_same _ _ _ _ _ _ h))]
 rfl
theorem cells3 {w:World} {g:Nat} {y0 y1 y2:Value} {T:TypeId} (h:w.heap[g]? =some (.cells #[y0,y1,y2] T (0,0))):
    (w.cell? ⟨g,0,none⟩=some y0∧w.cell? ⟨g,1,none⟩=some y1∧w.cell? ⟨g,2,none⟩=some y2)∧∀o,w.frozen? ⟨g,o,none⟩=false:=
 ⟨⟨by rw [cell_of_row _ _ _ _ _ _ h];rfl,by rw [cell_of_row _ _ _ _ _ _ h];rfl,by rw [cell_of_row _ _ _ _ _ _ h];rfl⟩,fun o=>frozen_of_row _ _ _ _ _ h⟩
theorem flat1 (r:List Int):[r].flatten=r:=by simp
section
variable {M:Nat→Prop} {w:World} {a b:Option Addr} {c d:Nat}
theorem lexR_any {xs ys:List Int} (h1:Sl M w a c xs) (h2:Sl M w b d ys):
    Calls Tryz.prog 125 #[.slice a xs.length c,.slice b ys.length d] w fun e w'=>e= .returned (.int .i64 (lexW xs ys))∧Hid (∃n,w'=w.drewN n):=by
 have hl1:=h1.le
 have hl2:=h2.le
 have hle:=comW_le xs ys
 have hC:=comR_any h1 h2
 obtain ⟨k,hkd⟩:∃k,k=comW xs ys:=⟨_,rfl⟩
 rw [←hkd] at hC hle
 have HC:=Lib.hid hC
 have HK:=Lib.hid hkd
 obtain ⟨hkx,hky⟩:=hle
 clear hC hkd
 by_cases hx:k=xs.length
 ·have hxb:(((k:Nat):Int)==((xs.length:Nat):Int))=true:=by simp [hx]
  by_cases hy:k=ys.length
  ·have hyb:(((k:Nat):Int)==((ys.length:Nat):Int))=true:=by simp [hy]
   have HF:=Lib.hid (lexW_zero (a:=xs) (b:=ys) (by rw [←HK.out];exact hx) (by rw [←HK.out];exact hy))
   clear hx hy
   go_enter Tryz.func125,Tryz.ntmps125
   go_wp2_with fail
   refine (HC.out).mono ?_
   rintro e w1 ⟨rfl,hD⟩
   go_wp2
   go_ret
   exact ⟨ret_i HF.out.symm,hD⟩
  have hyb:(((k:Nat):Int)==((ys.length:Nat):Int))=false:=by simp;omega
  have HF:=Lib.hid (lexW_short (a:=xs) (b:=ys) (by rw [←HK.out];exact hx) (by rw [←HK.out];exact hy))
  clear hx hy
  go_enter Tryz.func125,Tryz.ntmps125
  go_wp2_with fail
  refine (HC.out).mono ?_
  rintro e w1 ⟨rfl,hD⟩
  go_wp2
  go_ret
  exact ⟨ret_i HF.out.symm,hD⟩
 have hxb:(((k:Nat):Int)==((xs.length:Nat):Int))=false:=by simp;omega
 have hxl:k<xs.length:=by omega
 by_cases hy:k=ys.length
 ·have hyd:decide (k<ys.length)=false:=by simp;omega
  have HF:=Lib.hid (lexW_longer (a:=xs) (b:=ys) (by rw [←HK.out];exact hx) (by rw [←HK.out];exact hy))
  clear hx hy
  go_enter Tryz.func125,Tryz.ntmps125
  go_wp2_with fail
  refine (HC.out).mono ?_
  rintro e w1 ⟨rfl,hD⟩
  go_wp2
  refine wp_quiet_fast (by kernel_rfl) (by kernel_rfl) ?_
  repeat (first|go_big_quiet_step (fail)|quiet_step (fail))
  refine wpQuiet_nil ?_
  intro _ hw'
  obtain ⟨nq,hw''⟩:=hw'
  subst hw''
  go_wp2
  go_ret
  exact ⟨ret_i HF.out.symm,drw_add hD _⟩
 have hyl:k<ys.length:=by omega
 have hyd:decide (k<ys.length)=true:=by simp;omega
 clear hx hy
 go_enter Tryz.func125,Tryz.ntmps125
 go_wp2_with fail
 refine (HC.out).mono ?_
 rintro e w1 ⟨rfl,hD⟩
 obtain ⟨b1,o1,x,rfl,hxc,hxk, -⟩:=(sl_drw hD h1).at_int hxl
 obtain ⟨b2,o2,y,rfl,hyc,hyk, -⟩:=(sl_drw hD h2).at_int hyl
 have HL:=Lib.hid (lexW_at (a:=xs) (b:=ys) (by rw [←HK.out];exact hxk.out) (by rw [←HK.out];exact hyk.out))
 have HN:=Lib.hid (comW_ne (a:=xs) (b:=ys) (by rw [←HK.out];exact hxk.out) (by rw [←HK.out];exact hyk.out))
 by_cases hlt:x<y
 ·have hld:decide (x<y)=true:=by simp [hlt]
  have HF:Hid (lexW xs ys= -1):=by unfold Hid;rw [HL.out,sgn_lt hlt]
  clear hlt
  go_wp2
  refine wp_quiet_fast (by kernel_rfl) (by kernel_rfl) ?_
  repeat (first|go_big_quiet_step (fail)|quiet_step (fail))
  refine wpQuiet_nil ?_
  intro _ hw'
  obtain ⟨nq,hw''⟩:=hw'
  subst hw''
  go_wp2
  go_ret
  exact ⟨ret_i HF.out.symm,drw_add hD _⟩
 have hld:decide (x<y)=false:=by simp;omega
 have HF:Hid (lexW xs ys=1):=by unfold Hid;rw [HL.out,sgn_gt (by have:=HN.out;omega)]
 clear hlt
 go_wp2
 refine wp_quiet_fast (by kernel_rfl) (by kernel_rfl) ?_
 repeat (first|go_big_quiet_step (fail)|quiet_step (fail))
 refine wpQuiet_nil ?_
 intro _ hw'
 obtain ⟨nq,hw''⟩:=hw'
 subst hw''
 go_wp2
 go_ret
 exact ⟨ret_i HF.out.symm,drw_add hD _⟩
theorem cmpR_any {xs ys:List Int} (h1:Sl M w a c xs) (h2:Sl M w b d ys):
    Calls Tryz.prog 78 #[.slice a xs.length c,.slice b ys.length d] w fun e w'=>e= .returned (.int .i64 (cmpW xs ys))∧Hid (∃n,w'=w.drewN n):=by
 have HL:=Lib.hid (lexR_any h1 h2)
 have hl1:=h1.le
 have hl2:=h2.le
 have hD0:Hid (∃n,w=w.drewN n):=⟨0,rfl⟩
 rcases Nat.lt_trichotomy xs.length ys.length with h|h|h
 ·have HF:Hid (cmpW xs ys= -1):=by unfold Hid cmpW;rw [if_neg (by omega),sgn_lt (by omega)]
  go_enter Tryz.func78,Tryz.ntmps78
  go_wp2
  go_ret
  exact ⟨ret_i HF.out.symm,hD0⟩
 ·have HF:Hid (cmpW xs ys=lexW xs ys):=by unfold Hid cmpW;rw [if_pos h]
  have n1:¬xs.length<ys.length:=by omega
  have n2:¬ys.length<xs.length:=by omega
  clear h
  go_enter Tryz.func78,Tryz.ntmps78
  go_wp2_with fail
  refine (HL.out).mono ?_
  rintro e w1 ⟨rfl,hD⟩
  go_wp2
  go_ret
  exact ⟨ret_i HF.out.symm,hD⟩
 have HF:Hid (cmpW xs ys=1):=by unfold Hid cmpW;rw [if_neg (by omega),sgn_gt (by omega)]
 have n1:¬xs.length<ys.length:=by omega
 go_enter Tryz.func78,Tryz.ntmps78
 go_wp2
 go_ret
 exact ⟨ret_i HF.out.symm,hD0⟩
end
section
variable {P:Program} {w:World} {o:Oper} {a:Act} {ops:Array Oper} {rest:List Oper} {Q:Exit→Act→World→Prop}
theorem wp_push_o {K:Act→World→Prop} {l:List Int} {s x:Operand} {t e:TypeId} {B:Nat} {M:Nat→Prop} {v:Value} {g:Nat} {c:Nat} {y:Int} (hop:o.op= .call {callee:= .builtin .append,args:= #[s,x],argTypes:= #[t,t]})
    (ht:P.underlying t=some (.slice e)) (hi:(P.info? e).map (fun i=>(i.zero,i.size,i.bytes))=some (some (.int .i64 0),1,8))
    (hs:a.eval s=v) (hx:a.eval x= .slice (some ⟨g,0,none⟩) 1 c) (hown:Ow B M w e v l) (hnew:w.cell? ⟨g,0,none⟩=some (.int .i64 y)) (hy:i64 y)
    (hlen:l.length<1000000000000) (hB:B≤w.heap.size)
    (h:∀(a':Option Addr) (c':Nat) (l':List Int) (w':World),Hid (l'=l++[y])→Ow B M w' e (.slice a' l'.length c') l'→Hid (∀k,(Value.slice a' l'.length c').ownBlock=some k→(v.ownBlock=some k∨k=w.heap.size)∧k<w'.heap.size)→
     w.grownBy w' v.ownBlock→K (a.put o.dst (.slice a' l'.length c')) w'):o.wp P a w K Q:=by
 refine wp_push2 s x t hop e (.int .i64 0) 1 8 ht hi rfl (by decide) B (fun _=>True) v l hs rfl hown.anyM (fun _ _=>trivial) ⟨g,0,none⟩ c [.int .i64 y] y hx ⟨rfl,hy⟩ ?_ ?_ (by omega) (by unfold maxLen;omega) hB fun a' c' l' w' h1 h2 h3 h4=>h a' c' l' w' h1 h2.anyM h3 h4
 ·intro j u hj
  match j,hj with
  |0,hj=>simp at hj;subst hj;simpa [Addr.add] using hnew
 intro u hu;simp at hu;subst hu;rfl
theorem wpList_push_o {l:List Int} {s x:Operand} {t e:TypeId} {B:Nat} {M:Nat→Prop} {v:Value} {g:Nat} {c:Nat} {y:Int} (hg:o.guard=none) (hop:o.op= .call {callee:= .builtin .append,args:= #[s,x],argTypes:= #[t,t]})
    (ht:P.underlying t=some (.slice e)) (hi:(P.info? e).map (fun i=>(i.zero,i.size,i.bytes))=some (some (.int .i64 0),1,8))
    (hs:a.eval s=v) (hx:a.eval x= .slice (some ⟨g,0,none⟩) 1 c) (hown:Ow B M w e v l) (hnew:w.cell? ⟨g,0,none⟩=some (.int .i64 y)) (hy:i64 y)
    (hlen:l.length<1000000000000) (hB:B≤w.heap.size)
    (h:∀(a':Option Addr) (c':Nat) (l':List Int) (w':World),Hid (l'=l++[y])→Ow B M w' e (.slice a' l'.length c') l'→Hid (∀k,(Value.slice a' l'.length c').ownBlock=some k→(v.ownBlock=some k∨k=w.heap.size)∧k<w'.heap.size)→
     w.grownBy w' v.ownBlock→wpList P ops Q rest (a.put o.dst (.slice a' l'.length c')) w'):wpList P ops Q (o::rest) a w:=
 wpList_plain hg fun _ hK=>wp_push_o hop ht hi hs hx hown hnew hy hlen hB fun a' c' l' w' h2 h3 h4 h5=>hK _ _ (h a' c' l' w' h2 h3 h4 h5)
end
section
variable {B0:Nat} {M M':Nat→Prop} {w w':World} {bo:Nat} {inp st:Int} {aN:Option Addr} {cN:Nat} {rN:List (List Int)} {aO:Option Addr} {cO:Nat} {rO:List (List Int)}
theorem Ow.kept {B:Nat} {T:TypeId} {v:Value} {l:List Int} (h:Ow B M w T v l) (hs:w.heap.size≤w'.heap.size) (hb:∀k,v.ownBlock=some k→w'.heap[k]? =w.heap[k]?):Ow B M w' T v l:=
 (h.anyM (M':=fun _=>True)).ext (M':=M) ⟨hs,fun _ _ hm=>absurd trivial hm,fun _ _ _=>trivial⟩ hb
theorem Mk.sub (h:Mk B0 M w bo inp st aN cN rN aO cO rO) (hs:∀k,M' k→M k) (hold:∀q,q<B0→M' q) (hbo:M' bo) (hn:∀k,(Value.slice aN rN.length cN).ownBlock=some k→M' k)
    (ho:∀k,(Value.slice aO rO.length cO).ownBlock=some k→M' k):Mk B0 M' w bo inp st aN cN rN aO cO rO:=
 ⟨hold,hbo,h.blk,h.n.subM fun k _ hk=>hs k hk,h.o.subM fun k _ hk=>hs k hk,fun k hk=>⟨hn k hk,(h.mn k hk).2⟩,fun k hk=>⟨ho k hk,(h.mo k hk).2⟩,h.no,h.b0,fun q h1 h2=>h.lt q h1 (hs q h2)⟩
end
def Marks (n:Nat) (l:List Int) (b:List Bool):Prop:=b.length=n∧∀t,t<n→b[t]? =some (decide ((t:Int)∈l))
theorem Marks.at {n:Nat} {l:List Int} {b:List Bool} (h:Marks n l b) {t:Nat} (ht:t<n) {x:Bool} (hx:b[t]? =some x):x=decide ((t:Int)∈l):=by
 have:=h.2 t ht
 rw [hx] at this
 simpa using this
theorem Marks.push {n:Nat} {l:List Int} {b:List Bool} (h:Marks n l b) {t:Nat} (ht:t<n):Marks n (l++[(t:Int)]) (b.set t true):=by
 refine ⟨by rw [List.length_set];exact h.1,fun s hs=> ?_⟩
 by_cases e:s=t
 ·subst e
  rw [List.getElem?_set_self (by rw [h.1];exact hs)]
  simp
 rw [List.getElem?_set_ne (by omega),h.2 s hs]
 congr 1
 rw [decide_eq_decide,List.mem_append,List.mem_singleton]
 exact ⟨.inl,fun h=>h.resolve_right (by omega)⟩
theorem Marks.init {n:Nat} {b:List Bool} (h:b=List.replicate n false) {t:Nat} (ht:t<n):Marks n [(t:Int)] (b.set t true):=by
 subst h
 refine ⟨by simp,fun s hs=> ?_⟩
 by_cases e:s=t
 ·subst e
  rw [List.getElem?_set_self (by simpa using hs)]
  simp
 rw [List.getElem?_set_ne (by omega),List.getElem?_replicate,if_pos hs]
 congr 1
 rw [eq_comm,decide_eq_false_iff_not,List.mem_singleton]
 omega
section
variable {M:Nat→Prop} {w:World} {an ao:Option Addr} {cn co:Nat} {m:Mach}
end
section
variable {M M':Nat→Prop} {w:World} {an ao ac:Option Addr} {cn co cc:Nat} {m:Mach} {cls:List Int}
end
section
variable {M:Nat→Prop} {w:World} {an ao ac:Option Addr} {cn co cc:Nat} {m:Mach}
end
abbrev Ox {α:Type} [GR α] (n0 B:Nat) (w:World) (T:TypeId) (v:Value) (l:List α):Prop:=Ow B (fun k=>v.ownBlock=some k∨k<n0) w T v l
section
variable {α:Type} [GR α] {n0 B:Nat} {w w':World} {T:TypeId} {v:Value} {l:List α} {a:Option Addr} {c:Nat}
theorem Ox.nil:Ox n0 B w T (.slice none 0 0) ([]:List α):=Ow.nil
theorem Ox.toSl (h:Ox n0 B w T (.slice a l.length c) l) (hB:n0≤B):Sl (fun k=>k<n0) w a c l:=
 (h.subM (M':=fun k=>k<n0) fun _ _ hm=> .inr hm).toSl fun k hk=>by have:=(h.lt k hk).1;omega
theorem Ox.later (h:Ox n0 B w T v l) (hb:Below w.heap.size w w'):Ox n0 B w' T v l:=Ow.below h hb
end
section
variable {P:Program} {w:World} {o:Oper} {a:Act} {ops:Array Oper} {rest:List Oper} {Q:Exit→Act→World→Prop} {β:Type} [GR β]
theorem wp_push_x {K:Act→World→Prop} {rows:List (List β)} {r:List β} {s x:Operand} {t e:TypeId} {n0 B:Nat} {v:Value} {g c:Nat} {ar:Option Addr} {cr:Nat} (hop:o.op= .call {callee:= .builtin .append,args:= #[s,x],argTypes:= #[t,t]})
    (ht:P.underlying t=some (.slice e)) (hi:(P.info? e).map (fun i=>(i.zero,i.size,i.bytes))=some (some (.slice none 0 0),1,24))
    (hs:a.eval s=v) (hx:a.eval x= .slice (some ⟨g,0,none⟩) 1 c) (hown:Ox n0 B w e v rows) (hnew:w.cell? ⟨g,0,none⟩=some (.slice ar r.length cr)) (hy:Sl (fun k=>v.ownBlock=some k∨k<n0) w ar cr r)
    (hlen:rows.length<1000000000000) (hB:B≤w.heap.size)
    (h:∀(a':Option Addr) (c':Nat) (l':List (List β)) (w':World),Hid (l'=rows++[r])→Ox n0 B w' e (.slice a' l'.length c') l'→Hid (∀k,(Value.slice a' l'.length c').ownBlock=some k→v.ownBlock=some k∨k=w.heap.size)→w.grownBy w' v.ownBlock→K (a.put o.dst (.slice a' l'.length c')) w'):o.wp P a w K Q:=by
 refine wp_push2 s x t hop e (.slice none 0 0) 1 24 ht hi rfl (by decide) B _ v rows hs rfl hown (fun k hk=> .inl hk) ⟨g,0,none⟩ c [.slice ar r.length cr] r hx (rep_slice hy) ?_ ?_ (by omega) (by unfold maxLen;omega) hB ?_
 ·intro j u hj
  match j,hj with
  |0,hj=>simp at hj;subst hj;simpa [Addr.add] using hnew
 ·intro u hu;simp at hu;subst hu;rfl
 intro a' c' l' w' h1 h2 h3 h4
 refine h a' c' l' w' h1 (h2.subM fun k hk hm=> ?_) (fun k hk=>(h3.out k hk).1) h4
 rcases hm with hm|hm
 ·rcases (h3.out k hm).1 with e|e
  ·exact .inl (.inl e)
  exact .inr e
 exact .inl (.inr hm)
theorem wpList_push_x {rows:List (List β)} {r:List β} {s x:Operand} {t e:TypeId} {n0 B:Nat} {v:Value} {g c:Nat} {ar:Option Addr} {cr:Nat} (hg:o.guard=none) (hop:o.op= .call {callee:= .builtin .append,args:= #[s,x],argTypes:= #[t,t]})
    (ht:P.underlying t=some (.slice e)) (hi:(P.info? e).map (fun i=>(i.zero,i.size,i.bytes))=some (some (.slice none 0 0),1,24))
    (hs:a.eval s=v) (hx:a.eval x= .slice (some ⟨g,0,none⟩) 1 c) (hown:Ox n0 B w e v rows) (hnew:w.cell? ⟨g,0,none⟩=some (.slice ar r.length cr)) (hy:Sl (fun k=>v.ownBlock=some k∨k<n0) w ar cr r)
    (hlen:rows.length<1000000000000) (hB:B≤w.heap.size)
    (h:∀(a':Option Addr) (c':Nat) (l':List (List β)) (w':World),Hid (l'=rows++[r])→Ox n0 B w' e (.slice a' l'.length c') l'→Hid (∀k,(Value.slice a' l'.length c').ownBlock=some k→v.ownBlock=some k∨k=w.heap.size)→w.grownBy w' v.ownBlock→
     wpList P ops Q rest (a.put o.dst (.slice a' l'.length c')) w'):wpList P ops Q (o::rest) a w:=
 wpList_plain hg fun _ hK=>wp_push_x hop ht hi hs hx hown hnew hy hlen hB fun a' c' l' w' h1 h2 h3 h4=>hK _ _ (h a' c' l' w' h1 h2 h3 h4)
end
structure Pc where
 s:Int
 word:List Int
 deriving DecidableEq
namespace Mach
variable (m:Mach)
variable {m}
end Mach
instance:GR Pc where
 sz:=2
 rep M w cs q:=(∃ad c,cs=[.int .i64 q.s,.slice ad q.word.length c]∧Sl M w ad c q.word)∧i64 q.s
 len h:=by obtain ⟨⟨ad,c,h,_⟩,_⟩:=h;rw [h];rfl
 ext e h:=by obtain ⟨⟨ad,c,h,hs⟩,h2⟩:=h;exact ⟨⟨ad,c,h,hs.ext e⟩,h2⟩
section
variable {N B:Nat} {w w':World} {T:TypeId} {v:Value} {a:Option Addr} {c:Nat} {l:List Pc}
end
section
variable {P:Program} {w:World} {o:Oper} {a:Act} {ops:Array Oper} {rest:List Oper} {Q:Exit→Act→World→Prop}
end
instance:GR Pl where
 sz:=3
 rep M w cs q:=(∃ad c,cs=[.int .i64 q.s,.int .i64 q.t,.slice ad q.word.length c]∧Sl M w ad c q.word)∧i64 q.s∧i64 q.t
 len h:=by obtain ⟨⟨ad,c,h,_⟩,_⟩:=h;rw [h];rfl
 ext e h:=by obtain ⟨⟨ad,c,h,hs⟩,h2⟩:=h;exact ⟨⟨ad,c,h,hs.ext e⟩,h2⟩
abbrev mayQ (N:Nat) (v:Value) (k:Nat):Prop:=v.ownBlock=some k∨k<N
abbrev Qu (N B:Nat) (w:World) (T:TypeId) (v:Value) (l:List Pl):Prop:=Ow B (mayQ N v) w T v l
section
variable {N B:Nat} {w w':World} {T:TypeId} {v:Value} {a:Option Addr} {c:Nat} {l:List Pl}
theorem Qu.at (h:Qu N B w T (.slice a l.length c) l) {j:Nat} {q:Pl} (hq:l[j]? =some q):
    ∃g ad cw,a=some ⟨g,0,none⟩∧w.cell? ⟨g,j*3,none⟩=some (.int .i64 q.s)∧w.cell? ⟨g,j*3+1,none⟩=some (.int .i64 q.t)∧w.cell? ⟨g,j*3+2,none⟩=some (.slice ad q.word.length cw)∧
     Sl (mayQ N (.slice a l.length c)) w ad cw q.word∧Hid (i64 q.s∧i64 q.t)∧B≤g∧g<w.heap.size:=by
 have hj:j<l.length:=by
  by_cases e:j<l.length
  ·exact e
  rw [List.getElem?_eq_none (by omega)] at hq;simp at hq
 obtain ⟨g,rfl,hb,hg⟩:=ow_some h (by omega)
 obtain ⟨xs,h1,h2⟩:=h
 obtain ⟨⟨ad,cw,h3,h4⟩,h5⟩:=h2 j q hq
 have hx:∀i u,i<3→[Value.int .i64 q.s,.int .i64 q.t,.slice ad q.word.length cw][i]? =some u→w.cell? ⟨g,j*3+i,none⟩=some u:=by
  intro i u hi hu
  have hlt:j*3+i<l.length*3:=by omega
  have e:=h1.cellAt (j*3+i) hlt
  rw [e]
  rw [←h3,List.getElem?_take,if_pos (by exact hi),List.getElem?_drop] at hu
  exact hu
 exact ⟨g,ad,cw,rfl,hx 0 _ (by omega) rfl,hx 1 _ (by omega) rfl,hx 2 _ (by omega) rfl,h4,h5,hb,hg⟩
theorem Qu.later (h:Qu N B w T v l) (hb:Below w.heap.size w w'):Qu N B w' T v l:=Ow.below h hb
theorem Qu.set (h:Qu N B w T v l) {p:Addr} (hp:p.block<N) (hB:N≤B) (u:Value):Qu N B (w.setCell p u) T v l:=
 h.setOther (.inr hp) (fun k hk=>by have:=(h.lt k hk).1;omega) u
theorem Qu.one {s t:Int} (hs:i64 s) (ht:i64 t) (hB:B≤w.heap.size):Qu N B (w.alloc (.cells #[.int .i64 s,.int .i64 t,.slice none 0 0] T)) T (.slice (some ⟨w.heap.size,0,none⟩) 1 1) [⟨s,t,[]⟩]:=by
 refine ⟨[.int .i64 s,.int .i64 t,.slice none 0 0],?_,fun j y hj=> ?_⟩
 ·exact World.ownsRow_lit w #[.int .i64 s,.int .i64 t,.slice none 0 0] 1 hB (by unfold maxLen;omega) (by simp [GR.sz])
 match j,hj with
 |0,hj=>simp at hj;subst hj;exact ⟨⟨none,0,rfl,Sl.nil _ _ _ (by unfold maxLen;omega)⟩,hs,ht⟩
end
section
variable {P:Program} {w:World} {o:Oper} {a:Act} {ops:Array Oper} {rest:List Oper} {Q:Exit→Act→World→Prop}
end
section
variable {P:Program} {w:World} {ops:Array Oper} {rest:List Oper} {o:Oper} {a:Act} {Q:Exit→Act→World→Prop}
end
structure GridB (w:World) (g na nb k:Nat):Prop where
 size:w.heap.size=g+1+k
 outer:∃cur,w.heap[g]? =some (.cells cur 256 (0,0))∧na≤cur.size∧∀i,i<k→cur[i]? =some (.slice (some ⟨g+1+i,0,none⟩) nb nb)
 row:∀i,i<k→w.heap[g+1+i]? =some (.cells (madeCells #[.bool false] nb) 4 (0,0))
structure Grid (w:World) (g na nb:Nat) (K:Nat→Nat→Bool):Prop where
 outer:∀i,i<na→w.cell? ⟨g,i,none⟩=some (.slice (some ⟨g+1+i,0,none⟩) nb nb)
 row:∀i,i<na→∀j,j<nb→w.cell? ⟨g+1+i,j,none⟩=some (.bool (K i j))
 free:∀i,i<na→∀j,w.frozen? ⟨g+1+i,j,none⟩=false
section
variable {w w':World} {g na nb k:Nat} {K:Nat→Nat→Bool}
theorem GridB.init (w:World) (na nb:Nat):GridB (w.alloc (.cells (madeCells #[.slice none 0 0] na) 256)) w.heap.size na nb 0:=
 ⟨by simp,⟨_,heap_alloc_new w _,by rw [size_madeCells];simp,fun i hi=>by omega⟩,fun i hi=>by omega⟩
theorem GridB.step (h:GridB w g na nb k) (hk:k<na):GridB ((w.setCell ⟨g,k,none⟩ (.slice (some ⟨w.heap.size,0,none⟩) nb nb)).alloc (.cells (madeCells #[.bool false] nb) 4)) g na nb (k+1):=by
 obtain ⟨cur,h1,h2,h3⟩:=h.outer
 have hs:=h.size
 have hz:(w.setCell ⟨g,k,none⟩ (.slice (some ⟨w.heap.size,0,none⟩) nb nb)).heap.size=w.heap.size:=by simp [World.setCell]
 refine ⟨by rw [World.size_alloc,hz];omega,⟨_,(Below.heap_alloc _ _ _ (by rw [hz];omega)).trans (heap_setCell_same _ _ _ _ _ _ h1),by simpa using h2,fun i hi=> ?_⟩,fun i hi=> ?_⟩
 ·by_cases e:i=k
  ·subst e
   rw [Array.getElem?_setIfInBounds_self_of_lt (by omega),hs]
  rw [Array.getElem?_setIfInBounds_ne (by omega)]
  exact h3 i (by omega)
 by_cases e:i=k
 ·subst e
  have:=heap_alloc_new (w.setCell ⟨g,i,none⟩ (.slice (some ⟨w.heap.size,0,none⟩) nb nb)) (.cells (madeCells #[.bool false] nb) 4)
  rw [hz,hs] at this
  rw [←hs] at this ⊢
  exact this
 rw [Below.heap_alloc _ _ _ (by rw [hz];omega),Below.heap_setCell _ _ _ _ (by simp;omega)]
 exact h.row i (by omega)
theorem GridB.done (h:GridB w g na nb na):Grid w g na nb (fun _ _=>false):=by
 obtain ⟨cur,h1,h2,h3⟩:=h.outer
 refine ⟨fun i hi=> ?_,fun i hi j hj=> ?_,fun i hi j=> ?_⟩
 ·rw [cell_of_row _ _ _ _ _ _ h1];exact h3 i hi
 ·rw [cell_of_row _ _ _ _ _ _ (h.row i hi),←Array.getElem?_toList,toList_madeCells_one,List.getElem?_replicate,if_pos hj]
 exact frozen_of_row _ _ _ _ _ (h.row i hi)
theorem Grid.below {B:Nat} (h:Grid w g na nb K) (hb:Below B w w') (hN:g+1+na≤B):Grid w' g na nb K:=
 ⟨fun i hi=>(hb.cell (p:=⟨g,i,none⟩) (show g<B by omega)).trans (h.outer i hi),fun i hi j hj=>(hb.cell (p:=⟨g+1+i,j,none⟩) (show g+1+i<B by omega)).trans (h.row i hi j hj),
  fun i hi j=>(hb.frozen (p:=⟨g+1+i,j,none⟩) (show g+1+i<B by omega)).trans (h.free i hi j)⟩
theorem Grid.congr {K':Nat→Nat→Bool} (h:Grid w g na nb K) (he:∀i j,i<na→j<nb→K i j=K' i j):Grid w g na nb K':=
 ⟨h.outer,fun i hi j hj=>by rw [←he i j hi hj];exact h.row i hi j hj,h.free⟩
theorem Grid.drewN (h:Grid w g na nb K) (n:Nat):Grid (w.drewN n) g na nb K:=h.below (below_drewN (g+1+na) w n) (Nat.le_refl _)
theorem Grid.drew (h:Grid w g na nb K):Grid w.drew g na nb K:=h.below ((Below.refl (g+1+na) w).drew) (Nat.le_refl _)
theorem Grid.set (h:Grid w g na nb K) {s t:Nat} (hs:s<na) (ht:t<nb):Grid (w.setCell ⟨g+1+s,t,none⟩ (.bool true)) g na nb (fun i j=>if i=s∧j=t then true else K i j):=by
 refine ⟨fun i hi=> ?_,fun i hi j hj=> ?_,fun i hi j=> ?_⟩
 ·rw [World.cell?_setCell_other _ _ _ _ (by simp<;>omega)];exact h.outer i hi
 ·by_cases e:i=s∧j=t
  ·obtain ⟨rfl,rfl⟩:=e
   simp only [and_self,if_true]
   exact World.cell?_setCell_same _ _ _ (h.row i hi j hj)
  rw [World.cell?_setCell_other _ _ _ _ (by simp;omega),if_neg e];exact h.row i hi j hj
 rw [World.frozen?_setCell];exact h.free i hi j
end
abbrev mayT (N:Nat) (v:Value) (k:Nat):Prop:=v.ownBlock=some k∨k<N
abbrev Qt (N B:Nat) (w:World) (T:TypeId) (v:Value) (l:List Tr):Prop:=Ow B (mayT N v) w T v l
section
variable {N B:Nat} {w w':World} {T:TypeId} {v:Value} {a:Option Addr} {c:Nat} {l:List Tr}
theorem Qt.later (h:Qt N B w T v l) (hb:Below w.heap.size w w'):Qt N B w' T v l:=Ow.below h hb
theorem Qt.set (h:Qt N B w T v l) {p:Addr} (hp:p.block<N) (hB:N≤B) (u:Value):Qt N B (w.setCell p u) T v l:=
 h.setOther (.inr hp) (fun k hk=>by have:=(h.lt k hk).1;omega) u
theorem Qt.sl (h:Qt N B w T (.slice a l.length c) l) (hB:N≤B):Sl (fun k=>k<N) w a c l:=
 (Ow.ext h (Ext.sub_only fun _ _ hk=> .inr hk) fun _ _=>rfl).toSl fun k hk hlt=>by have:=(h.lt k hk).1;omega
end
section
variable {B g:Nat} {a w:World} {y0 y1 x0 x1:Value} {T:TypeId}
end
section
variable {P:Program} {w:World} {o:Oper} {a:Act} {ops:Array Oper} {rest:List Oper} {Q:Exit→Act→World→Prop}
end
end Go.Proofs.YtjmbphjgiodioaaGreatDoor
