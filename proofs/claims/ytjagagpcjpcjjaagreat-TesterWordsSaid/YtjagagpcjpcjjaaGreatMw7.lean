/- Lemmas, each with its own conditions. -/
import Derived.Test.YtjagagpcjpcjjaaGreatMw4
set_option maxRecDepth 100000
set_option maxHeartbeats 32000000
namespace Go.Proofs.YtjagagpcjpcjjaaGreat
section
open Tryz
open Go.RowKit
def Ow {α:Type} [GR α] (B:Nat) (M:Nat->Prop) (w:World) (T:TypeId) (v:Value) (l:List α):Prop:=
 ∃xs,w.ownsRow B T (GR.sz α) v l.length xs/\∀j x,l[j]? =some x->GR.rep M w ((xs.drop (j*GR.sz α)).take (GR.sz α)) x
section
variable {α:Type} [GR α] {B:Nat} {M M':Nat->Prop} {w w':World} {T:TypeId} {v v':Value} {l:List α} {a:Option Addr} {c:Nat}
theorem Ow.nil:Ow B M w T (.slice none 0 0) ([]:List α):=⟨[],World.ownsRow_nil _ _ _ _,fun j x h=>by simp at h⟩
theorem Ow.shape (h:Ow B M w T v l):∃a c,v= .slice a l.length c/\l.length<=c/\c<=maxLen:=by
 obtain ⟨xs,⟨_,h2⟩,_⟩:=h;rcases h2 with ⟨rfl,h0⟩|⟨g,cap,cur,rfl,_,_,h3,h4,_⟩;·exact ⟨none,0,by rw [h0],ah,aS⟩
 exact ⟨_,_,rfl,h3,h4⟩
theorem Ow.le (h:Ow B M w T v l):l.length<=9223372036854775807:=by
 obtain ⟨a,c,_,h1,h2⟩:=h.shape;have:=dH h1 h2;unfold maxLen at this;exact this
theorem Ow.lt (h:Ow B M w T v l):∀k,v.ownBlock=some k->B<=k/\k<w.heap.size:=by
 obtain ⟨xs,h1,_⟩:=h;exact h1.lt
theorem pJ {n size:Nat} {xs:List Value} (h:w.ownsRow B T size v n xs) (hb:∀k,v.ownBlock=some k->w'.heap[k]? =w.heap[k]?):w'.ownsRow B T size v n xs:=by
 refine ⟨h.1,?_⟩;rcases h.2 with h2|⟨g,cap,cur,rfl,h3,h4,h5⟩;·exact .inl h2
 exact .inr ⟨g,cap,cur,rfl,h3,by rw [hb g rfl];exact h4,h5⟩
theorem Ow.ext (h:Ow B M w T v l) (e:Ext M M' w w') (hb:∀k,v.ownBlock=some k->w'.heap[k]? =w.heap[k]?):Ow B M' w' T v l:=by
 obtain ⟨xs,h1,h2⟩:=h;exact ⟨xs,pJ h1 hb,fun j x hj=>GR.ext e (h2 j x hj)⟩
theorem Ow.below (h:Ow B M w T v l) (hb:Below w.heap.size w w'):Ow B M w' T v l:=
 h.ext (Ext.of_below hb) fun k hk=>hb.block k (h.lt k hk).2
theorem Ow.alloc (h:Ow B M w T v l) (o:Obj):Ow B M (w.alloc o) T v l:=
 h.ext (Ext.alloc _ _ _) fun k hk=>fA _ _ _ (h.lt k hk).2
theorem Ow.drew (h:Ow B M w T v l):Ow B M w.drew T v l:=h.ext (Ext.drew _ _) fun _ _=>rfl
theorem Ow.drewN (h:Ow B M w T v l) (n:Nat):Ow B M (w.drewN n) T v l:=h.below (below_drewN _ _ _)
theorem Ow.setOther (h:Ow B M w T v l) {p:Addr} (hp:M p.block) (hne:∀k,v.ownBlock=some k->k≠p.block) (u:Value):Ow B M (w.setCell p u) T v l:=
 h.ext (Ext.setCell _ hp u) fun k hk=>dM _ _ _ _ (hne k hk)
theorem Ow.push {xs news:List Value} {x:α} (hr:w.ownsRow B T (GR.sz α) v l.length xs) (hx:∀j x,l[j]? =some x->GR.rep M w ((xs.drop (j*GR.sz α)).take (GR.sz α)) x) (e:Ext M M' w w') (ho:w'.ownsRow B T (GR.sz α) v' (l.length+1) (xs++news)) (hn:GR.rep M' w' news x):Ow B M' w' T v' (l++[x]):=by
 have hl:xs.length=l.length*GR.sz α:=hr.1;refine ⟨xs++news,iq ho,fun j y hj=> ?_⟩;by_cases hlt:j<l.length
 ·rw [dz hlt] at hj;have:=GR.ext e (hx j y hj);have h1:(j+1)*GR.sz α<=xs.length:=by rw [hl];exact eD _ hlt
  rw [aq4,ari] at h1;rw [gF ah,fU aJ];exact this
 have hj2:j=l.length:=by
  by_cases e2:j<(l++[x]).length;·simp at e2;omega
  rw [bZ ah] at hj;simp at hj
 subst hj2;rw [dN (bM _)] at hj;simp at hj;subst hj;rw [<-hl,gF (bM _),List.drop_length,gJ,bY (by rw [GR.len hn];exact bM _)];exact hn
theorem Ow.jD (h:Ow B M w T (.slice a l.length c) l) (hM:∀k,(Value.slice a l.length c).ownBlock=some k->¬M k):Sl M w a c l:=by
 obtain ⟨xs,h1,h2⟩:=h;rcases h1.2 with ⟨hv,h0⟩|⟨g,cap,cur,hv,hb,hg,h3,h4,h5,h6⟩;·obtain rfl:=List.length_eq_zero_iff.1 h0;simp only [dU] at hv;obtain ⟨rfl,_,rfl⟩:=hv;exact ⟨bM _,aS,fun j x h=>by simp at h⟩
 simp only [dU,aqo] at hv;obtain ⟨rfl,rfl⟩:=hv;refine ⟨h3,h4,fun j x hj=>⟨g,0,_,rfl,(Array.getElem?_eq_some_iff.1 hg).1,hM g rfl,h2 j x hj,fun i u hi=> ?_⟩⟩;have hjl:j<l.length:=by
  by_cases e:j<l.length;·exact e
  rw [bZ ah] at hj;simp at hj
 have hi2:i<GR.sz α:=by
  by_cases e:i<GR.sz α;·exact e
  rw [bZ aJ] at hi;simp at hi
 have hlt:j*GR.sz α+i<l.length*GR.sz α:=by have:=eD (GR.sz α) hjl;rw [aqf] at this;omega
 rw [aqI,h1.cellAt _ hlt];rw [dL,bQ hi2,eu] at hi;exact hi
theorem Ow.ownsRow (h:Ow B M w T v l):∃xs,w.ownsRow B T (GR.sz α) v l.length xs/\∀j x,l[j]? =some x->GR.rep M w ((xs.drop (j*GR.sz α)).take (GR.sz α)) x:=h
end
section
variable {B:Nat} {M M':Nat->Prop} {w w':World} {T:TypeId} {v v':Value} {a:Option Addr} {c:Nat}
theorem mF {xs:List Value} {j:Nat} {u:Value} (h:(xs.drop (j*1)).take 1=[u]):xs[j]? =some u:=by
 have h1:((xs.drop (j*1)).take 1)[0]? =some u:=by rw [h];rfl
 simpa [dL] using h1
theorem jZ {α:Type} [GR α] {l:List α} (h:Ow B M w T (.slice a l.length c) l) (h0:0<l.length):∃g,a=some ⟨g,0,none⟩/\B<=g/\g<w.heap.size:=by
 obtain ⟨xs,h1,_⟩:=h;rcases h1.2 with ⟨_,h0'⟩|⟨g,cap,cur,hv,hb,hg,_⟩;·omega
 simp only [dU,aqo] at hv;exact ⟨g,hv.1,hb,(Array.getElem?_eq_some_iff.1 hg).1⟩
theorem Ow.iC {l:List Int} (h:Ow B M w T (.slice a l.length c) l) {j:Nat} (hj:j<l.length):∃g x,a=some ⟨g,0,none⟩/\w.cell? ⟨g,j,none⟩=some (.int .i64 x)/\w.frozen? ⟨g,j,none⟩=false/\Hid (l[j]? =some x)/\Hid (i64 x):=by
 obtain ⟨g,rfl,_,_⟩:=jZ h ah;obtain ⟨xs,h1,h2⟩:=h;obtain ⟨h3,h4⟩:=h2 j l[j] (by simp [hj]);refine ⟨g,l[j],rfl,?_,h1.frozenAt j,bK (by simp [hj]),h4⟩;rw [h1.cellAt j (by simpa [GR.sz] using hj)];exact mF h3
theorem Ow.Er {l:List Bool} (h:Ow B M w T (.slice a l.length c) l) {j:Nat} (hj:j<l.length):∃g x,a=some ⟨g,0,none⟩/\w.cell? ⟨g,j,none⟩=some (.bool x)/\w.frozen? ⟨g,j,none⟩=false/\Hid (l[j]? =some x):=by
 obtain ⟨g,rfl,_,_⟩:=jZ h ah;obtain ⟨xs,h1,h2⟩:=h;have h3:=h2 j l[j] (by simp [hj]);refine ⟨g,l[j],rfl,?_,h1.frozenAt j,bK (by simp [hj])⟩;rw [h1.cellAt j (by simpa [GR.sz] using hj)];exact mF h3
theorem I_ {xs:List Value} {i j:Nat} {u:Value}:((xs.set i u).drop (j*1)).take 1=if i=j/\j<xs.length then [u] else (xs.drop (j*1)).take 1:=by
 apply eY;intro k;rcases k with _|k
 ·by_cases e:i=j
  ·subst e;by_cases hl:i<xs.length;·simp [hl]
   simp [hl]
  simp [e]
 rw [dL,bO ah];split;·simp
 rw [dL,bO ah]
theorem Ow.set {α:Type} [GR α] (hs1:GR.sz α=1) {l:List α} {g:Nat} (h:Ow B M w T (.slice (some ⟨g,0,none⟩) l.length c) l) (hM:M g) {j:Nat} {u:Value} {x:α} (hx:GR.rep M (w.setCell ⟨g,j,none⟩ u) [u] x):Ow B M (w.setCell ⟨g,j,none⟩ u) T (.slice (some ⟨g,0,none⟩) l.length c) (l.set j x):=by
 obtain ⟨xs,h1,h2⟩:=h;have hl:xs.length=l.length:=by have:=h1.1;rw [hs1] at this;omega
 refine ⟨xs.set j u,iq ((h1.stored j u).1),fun i y hi=> ?_⟩;rw [hs1] at h2 ⊢;rw [I_];by_cases e:j=i
 ·subst e;by_cases hl2:j<l.length;·rw [bQ ⟨rfl,ah⟩];simp [hl2] at hi;subst hi;exact hx
  rw [bZ aJ] at hi;simp at hi
 rw [bO ah];rw [dY e] at hi;exact GR.ext (Ext.setCell w (p:=⟨g,j,none⟩) hM u) (h2 i y hi)
theorem Ow.anyM {l:List Int} (h:Ow B M w T v l):Ow B M' w T v l:=by
 obtain ⟨xs,h1,h2⟩:=h;exact ⟨xs,h1,fun j x hj=>h2 j x hj⟩
theorem Ow.fresh {l:List Int} (h:Ow B M w T (.slice a l.length c) l) {n:Nat} (hB:n<=B):Sl (fun k=>k<n) w a c l:=
 (h.anyM (M':=fun k=>k<n)).jD fun k hk hlt=>by have:=(h.lt k hk).1;omega
theorem Ow.mO {l:List Int} {n:Nat} (hn:n=l.length) (h:Ow B M w T (.slice a n c) l) {j:Nat} (hj:j<l.length):∃g x,a=some ⟨g,0,none⟩/\w.cell? ⟨g,j,none⟩=some (.int .i64 x)/\w.frozen? ⟨g,j,none⟩=false/\Hid (l[j]? =some x)/\Hid (i64 x):=by
 subst hn;exact h.iC hj
theorem Ow.NT {l:List Bool} {n:Nat} (hn:n=l.length) (h:Ow B M w T (.slice a n c) l) {j:Nat} (hj:j<l.length):∃g x,a=some ⟨g,0,none⟩/\w.cell? ⟨g,j,none⟩=some (.bool x)/\w.frozen? ⟨g,j,none⟩=false/\Hid (l[j]? =some x):=by
 subst hn;exact h.Er hj
theorem Ow.nu {l:List Int} {g n:Nat} (h:Ow B M w T (.slice (some ⟨g,0,none⟩) n c) l) (hn:n=l.length) (hM:M g) {x:Int} (j:Nat) (hx:i64 x):Ow B M (w.setCell ⟨g,j,none⟩ (.int .i64 x)) T (.slice (some ⟨g,0,none⟩) n c) (l.set j x):=by
 subst hn;exact Ow.set rfl h hM (u:= .int .i64 x) ⟨rfl,hx⟩
theorem Ow.Au {l:List Bool} {g n:Nat} (h:Ow B M w T (.slice (some ⟨g,0,none⟩) n c) l) (hn:n=l.length) (hM:M g) (x:Bool) (j:Nat):Ow B M (w.setCell ⟨g,j,none⟩ (.bool x)) T (.slice (some ⟨g,0,none⟩) n c) (l.set j x):=by
 subst hn;exact Ow.set rfl h hM (u:= .bool x) rfl
theorem Ow.upto {l:List Int} {B':Nat} (h:Ow B M w T v l) (hb:Below B' w w') (hk:∀k,v.ownBlock=some k->k<B'):Ow B M w' T v l:=by
 obtain ⟨xs,h1,h2⟩:=h;exact ⟨xs,pJ h1 fun k hk'=>hb.block k (hk k hk'),fun j x hj=>h2 j x hj⟩
theorem Ow.aey {l:List Bool} {B':Nat} (h:Ow B M w T v l) (hb:Below B' w w') (hk:∀k,v.ownBlock=some k->k<B'):Ow B M w' T v l:=by
 obtain ⟨xs,h1,h2⟩:=h;exact ⟨xs,pJ h1 fun k hk'=>hb.block k (hk k hk'),fun j x hj=>h2 j x hj⟩
theorem Ow.ny {l:List Int} (h:Ow B M w T v l) {p:Addr} (hne:∀k,v.ownBlock=some k->k≠p.block) (u:Value):Ow B M (w.setCell p u) T v l:=by
 obtain ⟨xs,h1,h2⟩:=h;exact ⟨xs,pJ h1 fun k hk'=>dM _ _ _ _ (hne k hk'),fun j x hj=>h2 j x hj⟩
theorem Ow.zero {α:Type} [GR α] (hB:B<=w.heap.size):Ow B M (w.alloc (.cells #[] T)) T (.slice (some ⟨w.heap.size,0,none⟩) 0 0) ([]:List α):=
 ⟨[],aqk w #[] 0 hB aS aH,fun j y hj=>by simp at hj⟩
theorem Ow.one {x:Int} (hx:i64 x) (hB:B<=w.heap.size):Ow B M (w.alloc (.cells #[.int .i64 x] T)) T (.slice (some ⟨w.heap.size,0,none⟩) 1 1) [x]:=by
 refine ⟨[.int .i64 x],?_,fun j y hj=> ?_⟩;·exact aqk w #[.int .i64 x] 1 hB aS (by simp [GR.sz])
 match j,hj with
 |0,hj=>simp at hj;subst hj;exact ⟨rfl,hx⟩
theorem Sl.lt {α:Type} [GR α] {l:List α} {b off:Nat} (h:Sl M w (some ⟨b,off,none⟩) c l) {j:Nat} (hj:j<l.length):b<w.heap.size:=by
 obtain ⟨b',off',cs,ha,hb,_⟩:=h.2.2 j l[j] (by simp [hj]);simp at ha;rw [ha.1];exact hb
theorem acL {M:Nat->Prop} {w:World} {x:Int} (h:i64 x):GR.rep M w [.int .i64 x] x:=⟨rfl,h⟩
theorem Zl {M:Nat->Prop} {w:World} {x:Bool}:GR.rep M w [.bool x] x:=rfl
theorem nD {α:Type} [GR α] {M:Nat->Prop} {w:World} {a:Option Addr} {c:Nat} {l:List α} (h:Sl M w a c l):GR.rep M w [.slice a l.length c] l:=⟨a,c,rfl,h⟩
end
structure Tr where
 inn:List Int
 out:List Int
 deriving DecidableEq
instance:GR Tr where
 sz:=2
 rep M w cs t:=∃a c a' c',cs=[.slice a t.inn.length c,.slice a' t.out.length c']/\Sl M w a c t.inn/\Sl M w a' c' t.out
 len h:=by obtain ⟨a,c,a',c',h,_⟩:=h;rw [h];rfl
 ext e h:=by obtain ⟨a,c,a',c',h,h1,h2⟩:=h;exact ⟨a,c,a',c',h,h1.ext e,h2.ext e⟩
structure Ob where
 gZ:Int
 jg:List Tr
 deriving DecidableEq
structure Hy where
 m:g_
 acc:List (List Int)
 deriving DecidableEq
structure Sp where
 pre:List Int
 sym:Int
 suf:List Int
 deriving DecidableEq
theorem Sl.UM {M:Nat->Prop} {w:World} {a:Option Addr} {c:Nat} {l:List Tr} (h:Sl M w a c l) {j:Nat} (hj:j<l.length):∃b off a1 c1 a2 c2 t,a=some ⟨b,off,none⟩/\w.cell? ⟨b,off+j*2,none⟩=some (.slice a1 t.inn.length c1)/\w.cell? ⟨b,off+j*2+1,none⟩=some (.slice a2 t.out.length c2)/\Hid (l[j]? =some t)/\ Sl M w a1 c1 t.inn/\Sl M w a2 c2 t.out:=by
 obtain ⟨b,off,cs,ha,_,_,⟨a1,c1,a2,c2,rfl,h1,h2⟩,hc⟩:=h.2.2 j l[j] (by simp [hj]);refine ⟨b,off,a1,c1,a2,c2,l[j],ha,by simpa [GR.sz] using hc 0 _ rfl,by simpa [GR.sz] using hc 1 _ rfl,bK (by simp [hj]),h1,h2⟩
structure Os (M:Nat->Prop) (w:World) (a:Option Addr) (c:Nat) (o:Ob):Prop where
 gZ:i64 o.gZ
 jg:Sl M w a c o.jg
abbrev obV (o:Ob) (a:Option Addr) (c:Nat):Value:= .agg #[.int .i64 o.gZ,.slice a o.jg.length c]
structure Hp (M:Nat->Prop) (w:World) (an:Option Addr) (cn:Nat) (ao:Option Addr) (co:Nat) (ac:Option Addr) (cc:Nat) (h:Hy):Prop where
 m:Ma M w an cn ao co h.m
 acc:Sl M w ac cc h.acc
abbrev hyV (h:Hy) (an:Option Addr) (cn:Nat) (ao:Option Addr) (co:Nat) (ac:Option Addr) (cc:Nat):Value:=
 .agg #[.int .i64 h.m.gZ,.int .i64 h.m.start,.slice an h.m.h_.length cn,.slice ao h.m.out.length co,.slice ac h.acc.length cc]
abbrev trV (t:Tr) (a:Option Addr) (c:Nat) (a':Option Addr) (c':Nat):Value:= .agg #[.slice a t.inn.length c,.slice a' t.out.length c']
section
variable {M M':Nat->Prop} {w w':World} {a an ao ac:Option Addr} {c cn co cc:Nat} {o:Ob} {h:Hy}
theorem Os.ext (e:Ext M M' w w') (h:Os M w a c o):Os M' w' a c o:=⟨h.gZ,h.jg.ext e⟩
theorem Os.below (h:Os M w a c o) (hb:Below w.heap.size w w'):Os M w' a c o:=h.ext (Ext.of_below hb)
theorem Hp.ext (e:Ext M M' w w') (k:Hp M w an cn ao co ac cc h):Hp M' w' an cn ao co ac cc h:=⟨k.m.ext e,k.acc.ext e⟩
theorem Hp.below (k:Hp M w an cn ao co ac cc h) (hb:Below w.heap.size w w'):Hp M w' an cn ao co ac cc h:=k.ext (Ext.of_below hb)
end
abbrev Lm (o:Ob) (a:Option Addr) (c:Nat):Obj:= .cells #[.int .i64 o.gZ,.slice a o.jg.length c] 43
abbrev O2 (w:World) (b:Nat) (a:Option Addr) (c:Nat) (o:Ob):Prop:=w.cell? ⟨b,0,none⟩=some (.int .i64 o.gZ)/\w.cell? ⟨b,1,none⟩=some (.slice a o.jg.length c)
abbrev NU (h:Hy) (an:Option Addr) (cn:Nat) (ao:Option Addr) (co:Nat) (ac:Option Addr) (cc:Nat):Obj:= .cells #[.int .i64 h.m.gZ,.int .i64 h.m.start,.slice an h.m.h_.length cn,.slice ao h.m.out.length co,.slice ac h.acc.length cc] 40
abbrev H5 (w:World) (b:Nat) (an:Option Addr) (cn:Nat) (ao:Option Addr) (co:Nat) (ac:Option Addr) (cc:Nat) (h:Hy):Prop:=C4 w b an cn ao co h.m/\w.cell? ⟨b,4,none⟩=some (.slice ac h.acc.length cc)
abbrev trO (t:Tr) (a:Option Addr) (c:Nat) (a':Option Addr) (c':Nat):Obj:= .cells #[.slice a t.inn.length c,.slice a' t.out.length c'] 73
abbrev T2 (w:World) (b:Nat) (a:Option Addr) (c:Nat) (a':Option Addr) (c':Nat) (t:Tr):Prop:=w.cell? ⟨b,0,none⟩=some (.slice a t.inn.length c)/\w.cell? ⟨b,1,none⟩=some (.slice a' t.out.length c')
abbrev S3 (w:World) (b:Nat) (a:Option Addr) (c:Nat) (a':Option Addr) (c':Nat) (s:Sp):Prop:=w.cell? ⟨b,0,none⟩=some (.slice a s.pre.length c)/\w.cell? ⟨b,1,none⟩=some (.int .i64 s.sym)/\w.cell? ⟨b,2,none⟩=some (.slice a' s.suf.length c')
section
variable {B b:Nat} {w w':World} {an ao ac a a':Option Addr} {cn co cc c c':Nat} {h:Hy} {o:Ob} {t:Tr} {s:Sp}
theorem Zm (w:World):O2 (w.alloc (Lm o a c)) w.heap.size a c o:=by refine ⟨?_,?_⟩<;>simp
theorem O2.below (h:O2 w b a c o) (hb:Below B w w') (hlt:b<B):O2 w' b a c o:=⟨(hb.cell (p:=⟨b,0,none⟩) hlt).trans h.1,(hb.cell (p:=⟨b,1,none⟩) hlt).trans h.2⟩
theorem afp (w:World):H5 (w.alloc (NU h an cn ao co ac cc)) w.heap.size an cn ao co ac cc h:=by refine ⟨⟨?_,?_,?_,?_⟩,?_⟩<;>simp
theorem H5.below (k:H5 w b an cn ao co ac cc h) (hb:Below B w w') (hlt:b<B):H5 w' b an cn ao co ac cc h:=⟨k.1.below hb hlt,(hb.cell (p:=⟨b,4,none⟩) hlt).trans k.2⟩
theorem afq (w:World):T2 (w.alloc (trO t a c a' c')) w.heap.size a c a' c' t:=by refine ⟨?_,?_⟩<;>simp
theorem T2.below (h:T2 w b a c a' c' t) (hb:Below B w w') (hlt:b<B):T2 w' b a c a' c' t:=⟨(hb.cell (p:=⟨b,0,none⟩) hlt).trans h.1,(hb.cell (p:=⟨b,1,none⟩) hlt).trans h.2⟩
theorem S3.below (h:S3 w b a c a' c' s) (hb:Below B w w') (hlt:b<B):S3 w' b a c a' c' s:=⟨(hb.cell (p:=⟨b,0,none⟩) hlt).trans h.1,(hb.cell (p:=⟨b,1,none⟩) hlt).trans h.2.1,(hb.cell (p:=⟨b,2,none⟩) hlt).trans h.2.2⟩
end
def dA (a:Option Addr) (c i:Nat):Option Addr:=if c=i then a else a.map (·.add i)
theorem Sl.drop {M:Nat->Prop} {w:World} {a:Option Addr} {c:Nat} {l:List Int} (h:Sl M w a c l) {i:Nat} (hi:i<=l.length):Sl M w (dA a c i) (c-i) (l.drop i):=by
 refine ⟨by have:=h.1;rw [aqb];omega,ig h.2.1,fun j x hj=> ?_⟩;have hj2:l[i+j]? =some x:=by rw [eu] at hj;exact hj
 have hjl:i+j<l.length:=by
  by_cases e:i+j<l.length;·exact e
  rw [bZ ah] at hj2;simp at hj2
 obtain ⟨b,off,cs,ha,hb,hm,hr,hc⟩:=h.2.2 (i+j) x hj2;refine ⟨b,off+i,cs,?_,hb,hm,hr,fun k u hk=> ?_⟩
 ·have:=h.1;unfold dA;rw [bO ah,ha];simp only [aqt,Addr.add];split;·rename_i h0;subst h0;rfl
  rfl
 have:=hc k u hk;have e:off+i+j*GR.sz Int+k=off+(i+j)*GR.sz Int+k:=by simp only [GR.sz];omega
 rw [e];exact this
theorem Sl.taken {α:Type} [GR α] {M:Nat->Prop} {w:World} {a:Option Addr} {c:Nat} {l:List α} (h:Sl M w a c l) {n:Nat} (hn:n<=l.length):Sl M w a c (l.take n):=by
 refine ⟨by have:=h.1;rw [dx];omega,h.2.1,fun j x hj=>h.2.2 j x ?_⟩;rw [dL] at hj;split at hj;·exact hj
 simp at hj
theorem iE:(prog.info? 3).map (fun i=>(i.zero,i.size,i.bytes))=some (some (.int .i64 0),1,8):=aB
theorem BU:(prog.info? 4).map (fun i=>(i.zero,i.size,i.bytes))=some (some (.bool false),1,1):=aB
theorem iI:(prog.info? 49).map (fun i=>(i.zero,i.size,i.bytes))=some (some (.slice none 0 0),1,24):=aB
section
variable {P:Program} {α:Type} [GR α] {w:World} {ops:Array Oper} {rest:List Oper} {o:Oper} {a:Act} {Q:Exit->Act->World->Prop}
theorem BX (hg:o.guard=none) (x y:Operand) (t:TypeId) (hop:o.op= .makeSlice t x y) (e:TypeId) (z:Value) (bytes:Nat) (ht:P.underlying t=some (.slice e)) (hi:(P.info? e).map (fun i=>(i.zero,i.size,i.bytes))=some (some z,1,bytes)) (hzc:z.cells= #[z]) (B:Nat) (M:Nat->Prop) (d:α) (hs1:GR.sz α=1) (hz:∀w,GR.rep M w [z] d) (n:Nat) (hx:a.eval x= .int .i64 n) (hy:a.eval y= .int .i64 n) (hn:bytes*n<=281474976710656) (hn2:n<=maxLen) (hB:B<=w.heap.size) (h:∀(g c:Nat) (l:List α) (w':World),Hid (l=List.replicate n d)->Ow B M w' e (.slice (some ⟨g,0,none⟩) l.length c) l->w.heap.size<=g->w.heap.size<w'.heap.size->Below w.heap.size w w'-> wpList P ops Q rest (a.put o.dst (.slice (some ⟨g,0,none⟩) l.length c)) w'):wpList P ops Q (o::rest) a w:=by
 refine aqi hg fun K hK=> ?_;obtain ⟨i,hi1,hi2,hi3,hi4⟩:=aqa hi;have hn':(bytes:Int)*(n:Int)<=281474976710656:=by have h1:((bytes*n:Nat):Int)<=281474976710656:=ah;rwa [aqu] at h1
 have wU:(n:Int)<=9223372036854775807:=by have h1:=hn2;unfold maxLen at h1;omega
 have hr:=run_make (P:=P) w t e i z ht hi1 hi2 .i64 .i64 n n ah (arh _) (by rw [hi4];exact hn') wU;rw [hzc,hi3] at hr;simp only [dK,gy] at hr;unfold Oper.wp;simp only [execOp,hop,hx,hy,hr,ara,aqx,aqU,Oper.upon];have jk:(w.alloc (.cells (madeCells #[z] n) e)).ownsRow B e 1 (.slice (some ⟨w.heap.size,0,none⟩) n n) n (madeCells #[z] n).toList:=aqk w _ n hB hn2 (by rw [size_madeCells];omega);have key:=h w.heap.size n (List.replicate n d) (w.alloc (.cells (madeCells #[z] n) e)) rfl ?_ (bM _) aH ((bP _ _).alloc (bM _) _);·simp only [fC] at key;exact hK _ _ key
 refine ⟨(madeCells #[z] n).toList,?_,fun j u hj=> ?_⟩;·rw [hs1];simpa using jk
 rw [hs1,arx];have hjn:j<n:=by
  by_cases e:j<n;·exact e
  rw [bZ aJ] at hj;simp at hj
 simp [hjn] at hj;subst hj;have:((List.replicate n z).drop (j*1)).take 1=[z]:=by rw [gy,List.drop_replicate,List.take_replicate];have:min 1 (n-j)=1:=ah;rw [this];rfl
 rw [this];exact hz _
theorem vE {base:Nat} {t ty e:TypeId} {i:TypeInfo} {z:Value} {size bytes:Nat} (ht:P.underlying t=some (.slice e)) (hi:P.info? e=some i) (hz:i.zero=some z) (UN:i.size=size) (hby:i.bytes=bytes) {v:Value} {n:Nat} {xs:List Value} (jk:w.ownsRow base e size v n xs) {a:Addr} {m c:Nat} {news:List Value} (hl:news.length=m*size) (nG:∀j u,news[j]? =some u->w.cell? (a.add j)=some u) (h1:∀u∈news,u.oneCell'=true) (h63:n+m<=maxLen) (Zn:(n+m)*bytes<=140737488355328) {v':Value} {w':World} (hr:(Builtin.append_ #[t,t] ty #[v,.slice (some a) m c]).run P w= .ok v' w'):v'.ownBlock=v.ownBlock\/v'.ownBlock=some w.heap.size:=by
 subst UN;subst hby;have alI:n+m<=9223372036854775807:=by simp only [maxLen] at h63;omega
 rcases jk.2 with ⟨rfl,rfl⟩|⟨g,cap,cur,rfl,hbg,hg,hnc,hcm,hcs,htake⟩
 ·by_cases hm:m=0
  ·subst hm;have hn:news=[]:=fE (iq hl);subst hn;left;have:(Builtin.append_ #[t,t] ty #[.slice none 0 0,.slice (some a) 0 c]).run P w= .ok (.slice none 0 0) w:=by simp [Builtin.append_,ar8 ht,sizeOf,typeInfo,hi,Builtin.lenOf,Builtin.firstCells,loadCells,loadCellsFrom]
   rw [this] at hr;simp only [arz] at hr;rw [<-hr.1]
  have hr2:=run_append_nil (P:=P) w t ty e i z ht hi hz a m c news hl nG ah ah (by have hb:=Zn;simp only [aqI] at hb;omega);rw [hr2] at hr;simp only [arz] at hr;right;rw [<-hr.1];rfl
 by_cases hroom:n+m<=cap
 ·have alJ:n*i.size+news.length<=cur.size:=by rw [hl,hcs,<-aq4];exact eD _ hroom
  have hr2:=run_append_room (P:=P) w t ty e i ht hi g n cap cur hg a m c news hl nG h1 hroom alJ;rw [hr2] at hr;simp only [arz] at hr;left;rw [<-hr.1];rfl
 have holds:∀j u,xs[j]? =some u->w.cell? ((⟨g,0,none⟩:Addr).add j)=some u:=jk.cells (g:=g) rfl;have hr2:=run_append_grow (P:=P) w t ty e i z ht hi hz ⟨g,0,none⟩ n cap xs jk.1 holds a m c news hl nG ah ah (growslice_fits ah Zn);rw [hr2] at hr;simp only [arz] at hr;right;rw [<-hr.1];rfl
theorem sF {K:Act->World->Prop} (s x:Operand) (t:TypeId) (hop:o.op= .call {callee:= .builtin .append,args:= #[s,x],argTypes:= #[t,t]}) (e:TypeId) (z:Value) (size bytes:Nat) (ht:P.underlying t=some (.slice e)) (hi:(P.info? e).map (fun i=>(i.zero,i.size,i.bytes))=some (some z,size,bytes)) (hzs:z.cells.size=size) (hsz:0<size) (B:Nat) (M:Nat->Prop) (v:Value) (l:List α) (hs:a.eval s=v) (hsA:GR.sz α=size) (jk:Ow B M w e v l) (hM:∀k,v.ownBlock=some k->M k) (ad:Addr) (c:Nat) (news:List Value) (y:α) (hx:a.eval x= .slice (some ad) 1 c) (hy:GR.rep M w news y) (nG:∀j u,news[j]? =some u->w.cell? (ad.add j)=some u) (h1:∀u∈news,u.oneCell'=true) (iX:(l.length+1)*bytes<=140737488355328) (tC:l.length+1<=maxLen) (hB:B<=w.heap.size) (h:∀(a':Option Addr) (c':Nat) (l':List α) (w':World),Hid (l'=l++[y])->Ow B (fun k=>M k\/k=w.heap.size) w' e (.slice a' l'.length c') l'->Hid (∀k,(Value.slice a' l'.length c').ownBlock=some k->(v.ownBlock=some k\/k=w.heap.size)/\k<w'.heap.size)-> w.grownBy w' v.ownBlock->K (a.put o.dst (.slice a' l'.length c')) w'):o.wp P a w K Q:=by
 obtain ⟨i,hi1,hi2,hi3,hi4⟩:=aqa hi;obtain ⟨xs,hr,vF⟩:=jk;subst hsA;have hnl:news.length=1*GR.sz α:=by rw [GR.len hy];omega
 obtain ⟨v',w',oD,ho,hgr,_⟩:=ar9 (P:=P) w B t o.type e i z (GR.sz α) bytes ht hi1 hi2 hi3 hi4 hzs hsz v l.length xs hr ad 1 c news hnl nG h1 tC iX hB;have xk:=vE ht hi1 hi2 hi3 hi4 hr hnl nG h1 tC iX oD;have he:Ext M (fun k=>M k\/k=w.heap.size) w w':=⟨hgr.size,fun k hk hm=>hgr.block k hk (fun e=>hm (hM k e.symm)),fun k hk hm=>hm.elim id (fun e=>by omega)⟩;have hn:GR.rep (fun k=>M k\/k=w.heap.size) w' news y:=GR.ext he hy;have kW:Ow B (fun k=>M k\/k=w.heap.size) w' e v' (l++[y]):=Ow.push hr vF he ho hn;obtain ⟨a',c',hv,_,_⟩:=kW.shape;have hb2:∀k,v'.ownBlock=some k->(v.ownBlock=some k\/k=w.heap.size)/\k<w'.heap.size:=by
  intro k hk;refine ⟨?_,(kW.lt k hk).2⟩;rcases xk with e|e;·exact .inl (e▸hk)
  exact .inr (by rw [e] at hk;simpa using hk.symm)
 rw [hv] at kW hb2;unfold Oper.wp execOp;simp only [hop,resolve,invoke,builtin,ara,aqU,aqx,arU,fQ,ap7,hs,hx,oD];show K (a.put o.dst v') w';rw [hv];exact h a' c' _ w' rfl kW hb2 hgr
theorem rD (hg:o.guard=none) (s x:Operand) (t:TypeId) (hop:o.op= .call {callee:= .builtin .append,args:= #[s,x],argTypes:= #[t,t]})
    (e:TypeId) (z:Value) (size bytes:Nat) (ht:P.underlying t=some (.slice e)) (hi:(P.info? e).map (fun i=>(i.zero,i.size,i.bytes))=some (some z,size,bytes)) (hzs:z.cells.size=size) (hsz:0<size)
    (B:Nat) (M:Nat->Prop) (v:Value) (l:List α) (hs:a.eval s=v) (hsA:GR.sz α=size) (jk:Ow B M w e v l) (hM:∀k,v.ownBlock=some k->M k)
    (ad:Addr) (c:Nat) (news:List Value) (y:α) (hx:a.eval x= .slice (some ad) 1 c) (hy:GR.rep M w news y) (nG:∀j u,news[j]? =some u->w.cell? (ad.add j)=some u) (h1:∀u∈news,u.oneCell'=true)
    (iX:(l.length+1)*bytes<=140737488355328) (tC:l.length+1<=maxLen) (hB:B<=w.heap.size)
    (h:∀(a':Option Addr) (c':Nat) (l':List α) (w':World),Hid (l'=l++[y])->Ow B (fun k=>M k\/k=w.heap.size) w' e (.slice a' l'.length c') l'->Hid (∀k,(Value.slice a' l'.length c').ownBlock=some k->(v.ownBlock=some k\/k=w.heap.size)/\k<w'.heap.size)->
     w.grownBy w' v.ownBlock->wpList P ops Q rest (a.put o.dst (.slice a' l'.length c')) w'):wpList P ops Q (o::rest) a w:=
 aqi hg fun _ hK=>sF s x t hop e z size bytes ht hi hzs hsz B M v l hs hsA jk hM ad c news y hx hy nG h1 iX tC hB fun a' c' l' w' h2 h3 h4 h5=>hK _ _ (h a' c' l' w' h2 h3 h4 h5)
theorem Db (hg:o.guard=none) (s x:Operand) (t:TypeId) (hop:o.op= .call {callee:= .builtin .append,args:= #[s,x],argTypes:= #[t,t]}) (e:TypeId) (z:Value) (size bytes:Nat) (ht:P.underlying t=some (.slice e)) (hi:(P.info? e).map (fun i=>(i.zero,i.size,i.bytes))=some (some z,size,bytes)) (hzs:z.cells.size=size) (hsz:0<size) (B:Nat) (M:Nat->Prop) (v:Value) (l:List α) (hs:a.eval s=v) (hsA:GR.sz α=size) (jk:Ow B M w e v l) (hM:∀k,v.ownBlock=some k->M k) (ad:Addr) (c:Nat) (news:List Value) (y:α) (hx:a.eval x= .slice (some ad) 1 c) (hy:GR.rep M w news y) (nG:∀j u,news[j]? =some u->w.cell? (ad.add j)=some u) (h1:∀u∈news,u.oneCell'=true) (iX:(l.length+1)*bytes<=140737488355328) (tC:l.length+1<=maxLen) (hB:B<=w.heap.size) (h:∀(a':Option Addr) (c':Nat) (l':List α) (w':World),Hid (l'=l++[y])->Ow B M w' e (.slice a' l'.length c') l'->w.grownBy w' v.ownBlock-> wpList P ops Q rest (a.put o.dst (.slice a' l'.length c')) w'):wpList P ops Q (o::rest) a w:=by
 obtain ⟨i,hi1,hi2,hi3,hi4⟩:=aqa hi;obtain ⟨xs,hr,vF⟩:=jk;subst hsA;refine arK w hg s x t hop B e i z (GR.sz α) bytes ht hi1 hi2 hi3 hi4 hzs hsz v l.length xs hs hr ad 1 c news hx (by rw [GR.len hy];omega) nG h1 tC iX hB ?_;intro v' w' ho hgr afr;have he:Ext M M w w':=Ext.grownBy hgr hM;have hn:GR.rep M w' news y:=GR.ext he hy;have kW:Ow B M w' e v' (l++[y]):=Ow.push hr vF he ho hn;obtain ⟨a',c',hv,_,_⟩:=kW.shape;rw [hv];rw [hv] at kW;exact h a' c' _ w' rfl kW hgr
theorem iQ {l:List Int} {s x:Operand} {t e:TypeId} {B:Nat} {v:Value} {g:Nat} {c:Nat} {y:Int} (hg:o.guard=none) (hop:o.op= .call {callee:= .builtin .append,args:= #[s,x],argTypes:= #[t,t]}) (ht:P.underlying t=some (.slice e)) (hi:(P.info? e).map (fun i=>(i.zero,i.size,i.bytes))=some (some (.int .i64 0),1,8)) (hs:a.eval s=v) (hx:a.eval x= .slice (some ⟨g,0,none⟩) 1 c) (jk:Ow B (fun k=>B<=k) w e v l) (lU:w.cell? ⟨g,0,none⟩=some (.int .i64 y)) (hy:i64 y) (iX:l.length<1000000000000) (hB:B<=w.heap.size) (h:∀(a':Option Addr) (c':Nat) (l':List Int) (w':World),Hid (l'=l++[y])->Ow B (fun k=>B<=k) w' e (.slice a' l'.length c') l'->Below B w w'-> wpList P ops Q rest (a.put o.dst (.slice a' l'.length c')) w'):wpList P ops Q (o::rest) a w:=by
 refine Db hg s x t hop e (.int .i64 0) 1 8 ht hi rfl (by decide) B (fun k=>B<=k) v l hs rfl jk (fun k hk=>(jk.lt k hk).1) ⟨g,0,none⟩ c [.int .i64 y] y hx ⟨rfl,hy⟩ ?_ ?_ ah aS hB ?_
 ·intro j u hj;match j,hj with
  |0,hj=>simp at hj;subst hj;simpa [Addr.add] using lU
 ·intro u hu;simp at hu;subst hu;rfl
 intro a' c' l' w' h1 h2 h3;exact h a' c' l' w' h1 h2 ((bP _ _).grown h3 hB (fun k hk=>(jk.lt k hk).1))
theorem jX {x:Operand} {t e:TypeId} {B n:Nat} (hg:o.guard=none) (hop:o.op= .makeSlice t x x) (ht:P.underlying t=some (.slice e))
    (hi:(P.info? e).map (fun i=>(i.zero,i.size,i.bytes))=some (some (.int .i64 0),1,8)) (hx:a.eval x= .int .i64 n) (hn:n<1000000000000) (hB:B<=w.heap.size)
    (h:∀(g c:Nat) (l:List Int) (w':World),Hid (l=List.replicate n 0)->Ow B (fun k=>B<=k) w' e (.slice (some ⟨g,0,none⟩) l.length c) l->Below w.heap.size w w'->w.heap.size<=g->
     wpList P ops Q rest (a.put o.dst (.slice (some ⟨g,0,none⟩) l.length c)) w'):wpList P ops Q (o::rest) a w:=
 BX hg x x t hop e (.int .i64 0) 8 ht hi rfl B (fun k=>B<=k) 0 rfl (fun _=>acL bg) n hx hx ah aS hB
  fun g c l w' h1 h2 h3 _ h5=>h g c l w' h1 h2 h5 h3
theorem Dc {x:Operand} {t e:TypeId} {B n:Nat} (hg:o.guard=none) (hop:o.op= .makeSlice t x x) (ht:P.underlying t=some (.slice e))
    (hi:(P.info? e).map (fun i=>(i.zero,i.size,i.bytes))=some (some (.bool false),1,1)) (hx:a.eval x= .int .i64 n) (hn:n<1000000000000) (hB:B<=w.heap.size)
    (h:∀(g c:Nat) (l:List Bool) (w':World),Hid (l=List.replicate n false)->Ow B (fun k=>B<=k) w' e (.slice (some ⟨g,0,none⟩) l.length c) l->Below w.heap.size w w'->w.heap.size<=g->
     wpList P ops Q rest (a.put o.dst (.slice (some ⟨g,0,none⟩) l.length c)) w'):wpList P ops Q (o::rest) a w:=
 BX hg x x t hop e (.bool false) 1 ht hi rfl B (fun k=>B<=k) false rfl (fun _=>Zl) n hx hx ah aS hB
  fun g c l w' h1 h2 h3 _ h5=>h g c l w' h1 h2 h5 h3
theorem jl {rows:List (List Int)} {r:List Int} {s x:Operand} {t e:TypeId} {B:Nat} {M:Nat->Prop} {v:Value} {g c:Nat} {ar:Option Addr} {cr:Nat} (hg:o.guard=none) (hop:o.op= .call {callee:= .builtin .append,args:= #[s,x],argTypes:= #[t,t]}) (ht:P.underlying t=some (.slice e)) (hi:(P.info? e).map (fun i=>(i.zero,i.size,i.bytes))=some (some (.slice none 0 0),1,24)) (hs:a.eval s=v) (hx:a.eval x= .slice (some ⟨g,0,none⟩) 1 c) (jk:Ow B M w e v rows) (hM:∀k,v.ownBlock=some k->M k) (lU:w.cell? ⟨g,0,none⟩=some (.slice ar r.length cr)) (hy:Sl M w ar cr r) (iX:rows.length<1000000000000) (hB:B<=w.heap.size) (h:∀(a':Option Addr) (c':Nat) (l':List (List Int)) (w':World),Hid (l'=rows++[r])->Ow B (fun k=>M k\/k=w.heap.size) w' e (.slice a' l'.length c') l'->Hid (∀k,(Value.slice a' l'.length c').ownBlock=some k->(v.ownBlock=some k\/k=w.heap.size)/\k<w'.heap.size)-> w.grownBy w' v.ownBlock->wpList P ops Q rest (a.put o.dst (.slice a' l'.length c')) w'):wpList P ops Q (o::rest) a w:=by
 refine rD hg s x t hop e (.slice none 0 0) 1 24 ht hi rfl (by decide) B M v rows hs rfl jk hM ⟨g,0,none⟩ c [.slice ar r.length cr] r hx (nD hy) ?_ ?_ ah aS hB h
 ·intro j u hj;match j,hj with
  |0,hj=>simp at hj;subst hj;simpa [Addr.add] using lU
 intro u hu;simp at hu;subst hu;rfl
theorem Df {K:Act->World->Prop} {rows:List (List Int)} {r:List Int} {s x:Operand} {t e:TypeId} {B:Nat} {M:Nat->Prop} {v:Value} {g c:Nat} {ar:Option Addr} {cr:Nat} (hop:o.op= .call {callee:= .builtin .append,args:= #[s,x],argTypes:= #[t,t]}) (ht:P.underlying t=some (.slice e)) (hi:(P.info? e).map (fun i=>(i.zero,i.size,i.bytes))=some (some (.slice none 0 0),1,24)) (hs:a.eval s=v) (hx:a.eval x= .slice (some ⟨g,0,none⟩) 1 c) (jk:Ow B M w e v rows) (hM:∀k,v.ownBlock=some k->M k) (lU:w.cell? ⟨g,0,none⟩=some (.slice ar r.length cr)) (hy:Sl M w ar cr r) (iX:rows.length<1000000000000) (hB:B<=w.heap.size) (h:∀(a':Option Addr) (c':Nat) (l':List (List Int)) (w':World),Hid (l'=rows++[r])->Ow B (fun k=>M k\/k=w.heap.size) w' e (.slice a' l'.length c') l'->Hid (∀k,(Value.slice a' l'.length c').ownBlock=some k->(v.ownBlock=some k\/k=w.heap.size)/\k<w'.heap.size)-> w.grownBy w' v.ownBlock->K (a.put o.dst (.slice a' l'.length c')) w'):o.wp P a w K Q:=by
 refine sF s x t hop e (.slice none 0 0) 1 24 ht hi rfl (by decide) B M v rows hs rfl jk hM ⟨g,0,none⟩ c [.slice ar r.length cr] r hx (nD hy) ?_ ?_ ah aS hB h
 ·intro j u hj;match j,hj with
  |0,hj=>simp at hj;subst hj;simpa [Addr.add] using lU
 intro u hu;simp at hu;subst hu;rfl
theorem wF {l0 l1:List Int} {s x:Operand} {t e:TypeId} {B:Nat} {M:Nat->Prop} {v:Value} {ad:Addr} {c:Nat} (hg:o.guard=none) (hop:o.op= .call {callee:= .builtin .append,args:= #[s,x],argTypes:= #[t,t]}) (ht:P.underlying t=some (.slice e)) (hi:(P.info? e).map (fun i=>(i.zero,i.size,i.bytes))=some (some (.int .i64 0),1,8)) (hs:a.eval s=v) (hx:a.eval x= .slice (some ad) l1.length c) (jk:Ow B (fun k=>B<=k) w e v l0) (BZ:Sl M w (some ad) c l1) (iX:l0.length+l1.length<1000000000000) (hB:B<=w.heap.size) (h:∀(a':Option Addr) (c':Nat) (l':List Int) (w':World),Hid (l'=l0++l1)->Ow B (fun k=>B<=k) w' e (.slice a' l'.length c') l'->Below B w w'-> wpList P ops Q rest (a.put o.dst (.slice a' l'.length c')) w'):wpList P ops Q (o::rest) a w:=by
 obtain ⟨i,hi1,hi2,hi3,hi4⟩:=aqa hi;have za:=jk;obtain ⟨xs,hr,vF⟩:=jk;refine arK w hg s x t hop B e i (.int .i64 0) 1 8 ht hi1 hi2 hi3 hi4 rfl (by decide) v l0.length xs hs hr ad l1.length c (l1.map (.int .i64)) hx aH ?_ ?_ aS ah hB ?_
 ·intro j u hj;rw [dP] at hj;obtain ⟨y,hy,rfl⟩:=Option.map_eq_some_iff.1 hj;have hjl:j<l1.length:=by
   by_cases e:j<l1.length;·exact e
   rw [bZ ah] at hy;simp at hy
  obtain ⟨b,off,z,had,hc,hz,_⟩:=BZ.iC hjl;have RX:ad=⟨b,off,none⟩:=iq had;have hz':y=z:=by have:=hz.out;rw [hy] at this;simpa using this
  rw [RX,hz',Addr.add];split;·rename_i h0;subst h0;simpa using hc
  exact hc
 ·intro u hu;obtain ⟨y,_,rfl⟩:=aqJ.1 hu;rfl
 intro v' w' ho hgr afr;have hl0:xs.length=l0.length:=by have:=hr.1;simpa [GR.sz] using this
 have kW:Ow B (fun k=>B<=k) w' e v' (l0++l1):=by
  refine ⟨xs++l1.map (Value.int .i64),by simpa [GR.sz] using ho,fun j y hj=> ?_⟩;by_cases hlt:j<l0.length;·rw [dz hlt] at hj;have:=vF j y hj;simp only [GR.sz,gy] at this ⊢;rw [gF ah,fU aJ];exact this
  rw [dN ah] at hj;have hjl:j-l0.length<l1.length:=by
   by_cases e:j-l0.length<l1.length;·exact e
   rw [bZ ah] at hj;simp at hj
  obtain ⟨b,off,z,_,_,hz,hzi⟩:=BZ.iC hjl;have hz':y=z:=by have:=hz.out;rw [hj] at this;simpa using this
  subst hz';simp only [GR.sz,gy];have e1:((xs++l1.map (Value.int .i64)).drop j).take 1=[.int .i64 y]:=by
   apply eY;intro q;rcases q with _|q;·rw [dL,bQ ah,eu,dN ah,dP,hl0,aqr,hj];rfl
   rw [dL,bO ah];rfl
  rw [e1];exact ⟨rfl,hzi.out⟩
 obtain ⟨a',c',hv,_,_⟩:=kW.shape;rw [hv];rw [hv] at kW;exact h a' c' _ w' rfl kW ((bP _ _).grown hgr hB (fun k hk=>(za.lt k hk).1))
theorem NV {K:Act->World->Prop} {l0 l1:List Int} {s x:Operand} {t e:TypeId} {B:Nat} {M:Nat->Prop} {v:Value} {ad:Addr} {c:Nat} (hop:o.op= .call {callee:= .builtin .append,args:= #[s,x],argTypes:= #[t,t]}) (ht:P.underlying t=some (.slice e)) (hi:(P.info? e).map (fun i=>(i.zero,i.size,i.bytes))=some (some (.int .i64 0),1,8)) (hs:a.eval s=v) (hx:a.eval x= .slice (some ad) l1.length c) (jk:Ow B (fun k=>B<=k) w e v l0) (BZ:Sl M w (some ad) c l1) (iX:l0.length+l1.length<1000000000000) (hB:B<=w.heap.size) (h:∀(a':Option Addr) (c':Nat) (l':List Int) (w':World),Hid (l'=l0++l1)->Ow B (fun k=>B<=k) w' e (.slice a' l'.length c') l'->Below B w w'-> K (a.put o.dst (.slice a' l'.length c')) w'):o.wp P a w K Q:=by
 obtain ⟨i,hi1,hi2,hi3,hi4⟩:=aqa hi;have za:=jk;obtain ⟨xs,hr,vF⟩:=jk;refine wp_append_own (w:=w) s x t hop B e i (.int .i64 0) 1 8 ht hi1 hi2 hi3 hi4 rfl (by decide) v l0.length xs hs hr ad l1.length c (l1.map (.int .i64)) hx aH ?_ ?_ aS ah hB ?_
 ·intro j u hj;rw [dP] at hj;obtain ⟨y,hy,rfl⟩:=Option.map_eq_some_iff.1 hj;have hjl:j<l1.length:=by
   by_cases e:j<l1.length;·exact e
   rw [bZ ah] at hy;simp at hy
  obtain ⟨b,off,z,had,hc,hz,_⟩:=BZ.iC hjl;have RX:ad=⟨b,off,none⟩:=iq had;have hz':y=z:=by have:=hz.out;rw [hy] at this;simpa using this
  rw [RX,hz',Addr.add];split;·rename_i h0;subst h0;simpa using hc
  exact hc
 ·intro u hu;obtain ⟨y,_,rfl⟩:=aqJ.1 hu;rfl
 intro v' w' ho hgr afr;have hl0:xs.length=l0.length:=by have:=hr.1;simpa [GR.sz] using this
 have kW:Ow B (fun k=>B<=k) w' e v' (l0++l1):=by
  refine ⟨xs++l1.map (Value.int .i64),by simpa [GR.sz] using ho,fun j y hj=> ?_⟩;by_cases hlt:j<l0.length;·rw [dz hlt] at hj;have:=vF j y hj;simp only [GR.sz,gy] at this ⊢;rw [gF ah,fU aJ];exact this
  rw [dN ah] at hj;have hjl:j-l0.length<l1.length:=by
   by_cases e:j-l0.length<l1.length;·exact e
   rw [bZ ah] at hj;simp at hj
  obtain ⟨b,off,z,_,_,hz,hzi⟩:=BZ.iC hjl;have hz':y=z:=by have:=hz.out;rw [hj] at this;simpa using this
  subst hz';simp only [GR.sz,gy];have e1:((xs++l1.map (Value.int .i64)).drop j).take 1=[.int .i64 y]:=by
   apply eY;intro q;rcases q with _|q;·rw [dL,bQ ah,eu,dN ah,dP,hl0,aqr,hj];rfl
   rw [dL,bO ah];rfl
  rw [e1];exact ⟨rfl,hzi.out⟩
 obtain ⟨a',c',hv,_,_⟩:=kW.shape;rw [hv];rw [hv] at kW;exact h a' c' _ w' rfl kW ((bP _ _).grown hgr hB (fun k hk=>(za.lt k hk).1))
end
theorem Ow.oF {α:Type} [GR α] {B:Nat} {M M':Nat->Prop} {w:World} {T:TypeId} {v:Value} {l:List α} (h:Ow B M w T v l) (hs:∀k,k<w.heap.size->M' k->M k):Ow B M' w T v l:=
 h.ext (Ext.jA hs) fun _ _=>rfl
structure Mk (B0:Nat) (M:Nat->Prop) (w:World) (bo:Nat) (inp st:Int) (aN:Option Addr) (cN:Nat) (rN:List (List Int)) (aO:Option Addr) (cO:Nat) (rO:List (List Int)):Prop where
 old:∀q,q<B0->M q
 NW:M bo
 blk:w.heap[bo]? =some (.cells #[.int .i64 inp,.int .i64 st,.slice aN rN.length cN,.slice aO rO.length cO] 24 (0,0))
 n:Ow B0 M w 49 (.slice aN rN.length cN) rN
 o:Ow B0 M w 49 (.slice aO rO.length cO) rO
 mn:∀k,(Value.slice aN rN.length cN).ownBlock=some k->M k/\k≠bo
 mo:∀k,(Value.slice aO rO.length cO).ownBlock=some k->M k/\k≠bo
 no:∀k k',(Value.slice aN rN.length cN).ownBlock=some k->(Value.slice aO rO.length cO).ownBlock=some k'->k≠k'
 b0:B0<=bo
 lt:∀q,B0<=q->M q->q<w.heap.size
section
variable {B0:Nat} {M M':Nat->Prop} {w w':World} {bo:Nat} {inp st:Int} {aN:Option Addr} {cN:Nat} {rN:List (List Int)} {aO:Option Addr} {cO:Nat} {rO:List (List Int)}
theorem Mk.zD (h:Mk B0 M w bo inp st aN cN rN aO cO rO):bo<w.heap.size:=h.lt bo h.b0 h.NW
theorem Mk.ext (h:Mk B0 M w bo inp st aN cN rN aO cO rO) (e:Ext M M w w') (hb:∀k,B0<=k->M k->w'.heap[k]? =w.heap[k]?):Mk B0 M w' bo inp st aN cN rN aO cO rO:=
 ⟨h.old,h.NW,(hb _ h.b0 h.NW).trans h.blk,h.n.ext e (fun k hk=>hb k (h.n.lt k hk).1 (h.mn k hk).1),h.o.ext e (fun k hk=>hb k (h.o.lt k hk).1 (h.mo k hk).1),h.mn,h.mo,h.no,h.b0,fun q h1 h2=>eZ (h.lt q h1 h2) e.size⟩
theorem Mk.below (h:Mk B0 M w bo inp st aN cN rN aO cO rO) (hb:Below w.heap.size w w'):Mk B0 M w' bo inp st aN cN rN aO cO rO:=
 h.ext (Ext.of_below hb) fun k h1 h2=>hb.block k (h.lt k h1 h2)
theorem Mk.alloc (h:Mk B0 M w bo inp st aN cN rN aO cO rO) (o:Obj):Mk B0 M (w.alloc o) bo inp st aN cN rN aO cO rO:=h.below ((bP _ _).alloc (bM _) o)
theorem Mk.drewN (h:Mk B0 M w bo inp st aN cN rN aO cO rO) (n:Nat):Mk B0 M (w.drewN n) bo inp st aN cN rN aO cO rO:=h.below (below_drewN _ _ _)
theorem Mk.drew (h:Mk B0 M w bo inp st aN cN rN aO cO rO):Mk B0 M w.drew bo inp st aN cN rN aO cO rO:=h.below ((bP _ _).drew)
theorem Mk.open (h:Mk B0 M w bo inp st aN cN rN aO cO rO) {g:Nat} (hg:w.heap.size<=g) (hb:Below w.heap.size w w') (hg2:g<w'.heap.size):Mk B0 (fun k=>M k\/k=g) w' bo inp st aN cN rN aO cO rO:=by
 have e:Ext M (fun k=>M k\/k=g) w w':=⟨hb.size,fun k hk _=>hb.block k hk,fun k hk hm=>hm.elim id (fun e=>by omega)⟩;have hbl:∀k,B0<=k->M k->w'.heap[k]? =w.heap[k]? :=fun k h1 h2=>hb.block k (h.lt k h1 h2)
 exact ⟨fun q hq=> .inl (h.old q hq),.inl h.NW,(hbl _ h.b0 h.NW).trans h.blk,h.n.ext e (fun k hk=>hbl k (h.n.lt k hk).1 (h.mn k hk).1),h.o.ext e (fun k hk=>hbl k (h.o.lt k hk).1 (h.mo k hk).1),
  fun k hk=>⟨.inl (h.mn k hk).1,(h.mn k hk).2⟩,fun k hk=>⟨.inl (h.mo k hk).1,(h.mo k hk).2⟩,h.no,h.b0,fun q h1 h2=>h2.elim (fun h3=>eZ (h.lt q h1 h3) hb.size) (fun e=>e▸hg2)⟩
theorem Mk.write {g:Nat} (h:Mk B0 (fun k=>M k\/k=g) w bo inp st aN cN rN aO cO rO) (hM:¬M g) (NY:M bo) (hn:∀k,(Value.slice aN rN.length cN).ownBlock=some k->M k) (ho:∀k,(Value.slice aO rO.length cO).ownBlock=some k->M k) (j:Nat) (u:Value):Mk B0 (fun k=>M k\/k=g) (w.setCell ⟨g,j,none⟩ u) bo inp st aN cN rN aO cO rO:=by
 have e:Ext (fun k=>M k\/k=g) (fun k=>M k\/k=g) w (w.setCell ⟨g,j,none⟩ u):=Ext.setCell w (p:=⟨g,j,none⟩) (.inr rfl) u;have hb:∀k,M k->(w.setCell ⟨g,j,none⟩ u).heap[k]? =w.heap[k]? :=fun k hk=>dM _ _ _ _ (fun e=>hM (by simp at e;exact e▸hk));exact ⟨h.old,h.NW,(hb _ NY).trans h.blk,h.n.ext e (fun k hk=>hb k (hn k hk)),h.o.ext e (fun k hk=>hb k (ho k hk)),h.mn,h.mo,h.no,h.b0,fun q h1 h2=>by have:=h.lt q h1 h2;simpa [World.setCell] using this⟩
theorem Mk.close {g:Nat} (h:Mk B0 (fun k=>M k\/k=g) w bo inp st aN cN rN aO cO rO) (pq:∀q,q<B0->M q) (NY:M bo) (hn:∀k,(Value.slice aN rN.length cN).ownBlock=some k->M k) (ho:∀k,(Value.slice aO rO.length cO).ownBlock=some k->M k):
    Mk B0 M w bo inp st aN cN rN aO cO rO:=
 ⟨pq,NY,h.blk,h.n.oF (fun _ _ hm=> .inl hm),h.o.oF (fun _ _ hm=> .inl hm),fun k hk=>⟨hn k hk,(h.mn k hk).2⟩,fun k hk=>⟨ho k hk,(h.mo k hk).2⟩,h.no,h.b0,fun q h1 h2=>h.lt q h1 (.inl h2)⟩
theorem Mk.NZ (h:Mk B0 M w bo inp st aN cN rN aO cO rO) {a':Option Addr} {c':Nat} {l':List (List Int)} (ho:Ow B0 (fun k=>M k\/k=w.heap.size) w' 49 (.slice a' l'.length c') l') (hb:∀k,(Value.slice a' l'.length c').ownBlock=some k->(Value.slice aN rN.length cN).ownBlock=some k\/k=w.heap.size) (hgr:w.grownBy w' (Value.slice aN rN.length cN).ownBlock) (hsz:∀k,(Value.slice a' l'.length c').ownBlock=some k->k<w'.heap.size):Mk B0 (fun k=>M k\/(k=w.heap.size/\k<w'.heap.size)) (w'.setCell ⟨bo,2,none⟩ (.slice a' l'.length c')) bo inp st a' c' l' aO cO rO:=by
 have Zo:=h.zD;have afs:some bo≠(Value.slice aN rN.length cN).ownBlock:=fun e=>(h.mn bo e.symm).2 rfl;have afu:w'.heap[bo]? =w.heap[bo]? :=hgr.block bo Zo afs;have N_:∀k,(Value.slice a' l'.length c').ownBlock=some k->k≠bo:=by
  intro k hk e;rcases hb k hk with h1|h1;·exact (h.mn k h1).2 e
  omega
 have e1:Ext M (fun k=>M k\/(k=w.heap.size/\k<w'.heap.size)) w w':=⟨hgr.size,fun k hk hm=>hgr.block k hk (fun e=>hm (h.mn k e.symm).1),fun k hk hm=>hm.elim id (fun e=>by omega)⟩
 have e2:Ext (fun k=>M k\/k=w.heap.size) (fun k=>M k\/(k=w.heap.size/\k<w'.heap.size)) w' (w'.setCell ⟨bo,2,none⟩ (.slice a' l'.length c')):=
  (Ext.setCell w' (p:=⟨bo,2,none⟩) (.inl h.NW) _).trans (Ext.jA fun k _ hm=>hm.elim .inl (fun e=> .inr e.1))
 have e3:Ext (fun k=>M k\/(k=w.heap.size/\k<w'.heap.size)) (fun k=>M k\/(k=w.heap.size/\k<w'.heap.size)) w' (w'.setCell ⟨bo,2,none⟩ (.slice a' l'.length c')):=Ext.setCell w' (p:=⟨bo,2,none⟩) (.inl h.NW) _;refine ⟨fun q hq=> .inl (h.old q hq),.inl h.NW,?_,?_,?_,fun k hk=>⟨?_,N_ k hk⟩,fun k hk=>⟨.inl (h.mo k hk).1,(h.mo k hk).2⟩,fun k k' hk hk'=> ?_,h.b0,fun q h1 h2=> ?_⟩;·rw [gT _ _ _ _ _ _ (afu.trans h.blk)];rfl
 ·exact ho.ext e2 fun k hk=>dM _ _ _ _ (N_ k hk)
 ·refine (h.o.ext e1 fun k hk=>hgr.block k (h.o.lt k hk).2 (fun e=>h.no k k e.symm hk rfl)).ext e3 fun k hk=>dM _ _ _ _ (h.mo k hk).2
 ·rcases hb k hk with h1|h1;·exact .inl (h.mn k h1).1
  exact .inr ⟨h1,hsz k hk⟩
 ·rcases hb k hk with h1|h1;·exact h.no k k' h1 hk'
  have:=(h.o.lt k' hk').2;omega
 have:q<w'.heap.size:=h2.elim (fun h3=>eZ (h.lt q h1 h3) hgr.size) (fun h3=>h3.2);simpa [World.setCell] using this
theorem Mk.Oa (h:Mk B0 M w bo inp st aN cN rN aO cO rO) {a':Option Addr} {c':Nat} {l':List (List Int)} (ho:Ow B0 (fun k=>M k\/k=w.heap.size) w' 49 (.slice a' l'.length c') l') (hb:∀k,(Value.slice a' l'.length c').ownBlock=some k->(Value.slice aO rO.length cO).ownBlock=some k\/k=w.heap.size) (hgr:w.grownBy w' (Value.slice aO rO.length cO).ownBlock) (hsz:∀k,(Value.slice a' l'.length c').ownBlock=some k->k<w'.heap.size):Mk B0 (fun k=>M k\/(k=w.heap.size/\k<w'.heap.size)) (w'.setCell ⟨bo,3,none⟩ (.slice a' l'.length c')) bo inp st aN cN rN a' c' l':=by
 have Zo:=h.zD;have afs:some bo≠(Value.slice aO rO.length cO).ownBlock:=fun e=>(h.mo bo e.symm).2 rfl;have afu:w'.heap[bo]? =w.heap[bo]? :=hgr.block bo Zo afs;have N_:∀k,(Value.slice a' l'.length c').ownBlock=some k->k≠bo:=by
  intro k hk e;rcases hb k hk with h1|h1;·exact (h.mo k h1).2 e
  omega
 have e1:Ext M (fun k=>M k\/(k=w.heap.size/\k<w'.heap.size)) w w':=⟨hgr.size,fun k hk hm=>hgr.block k hk (fun e=>hm (h.mo k e.symm).1),fun k hk hm=>hm.elim id (fun e=>by omega)⟩
 have e2:Ext (fun k=>M k\/k=w.heap.size) (fun k=>M k\/(k=w.heap.size/\k<w'.heap.size)) w' (w'.setCell ⟨bo,3,none⟩ (.slice a' l'.length c')):=
  (Ext.setCell w' (p:=⟨bo,3,none⟩) (.inl h.NW) _).trans (Ext.jA fun k _ hm=>hm.elim .inl (fun e=> .inr e.1))
 have e3:Ext (fun k=>M k\/(k=w.heap.size/\k<w'.heap.size)) (fun k=>M k\/(k=w.heap.size/\k<w'.heap.size)) w' (w'.setCell ⟨bo,3,none⟩ (.slice a' l'.length c')):=Ext.setCell w' (p:=⟨bo,3,none⟩) (.inl h.NW) _;refine ⟨fun q hq=> .inl (h.old q hq),.inl h.NW,?_,?_,?_,fun k hk=>⟨.inl (h.mn k hk).1,(h.mn k hk).2⟩,fun k hk=>⟨?_,N_ k hk⟩,fun k k' hk hk'=> ?_,h.b0,fun q h1 h2=> ?_⟩;·rw [gT _ _ _ _ _ _ (afu.trans h.blk)];rfl
 ·refine (h.n.ext e1 fun k hk=>hgr.block k (h.n.lt k hk).2 (fun e=>h.no k k hk e.symm rfl)).ext e3 fun k hk=>dM _ _ _ _ (h.mn k hk).2
 ·exact ho.ext e2 fun k hk=>dM _ _ _ _ (N_ k hk)
 ·rcases hb k hk with h1|h1;·exact .inl (h.mo k h1).1
  exact .inr ⟨h1,hsz k hk⟩
 ·rcases hb k' hk' with h1|h1;·exact h.no k k' hk h1
  have:=(h.n.lt k hk).2;omega
 have:q<w'.heap.size:=h2.elim (fun h3=>eZ (h.lt q h1 h3) hgr.size) (fun h3=>h3.2);simpa [World.setCell] using this
theorem Mk.cells (h:Mk B0 M w bo inp st aN cN rN aO cO rO):w.cell? ⟨bo,0,none⟩=some (.int .i64 inp)/\w.cell? ⟨bo,1,none⟩=some (.int .i64 st)/\w.cell? ⟨bo,2,none⟩=some (.slice aN rN.length cN)/\w.cell? ⟨bo,3,none⟩=some (.slice aO rO.length cO)/\∀o,w.frozen? ⟨bo,o,none⟩=false:=by
 refine ⟨?_,?_,?_,?_,fun o=>gB _ _ _ _ _ h.blk⟩<;>rw [ap2 _ _ _ _ _ _ h.blk]<;>rfl
theorem Mk.afv (h:Mk B0 M w bo inp st aN cN rN aO cO rO) (h1:i64 inp) (h2:i64 st) {n:Nat} (hn:n<=B0):Ma (fun k=>k<n) w aN cN aO cO ⟨inp,st,rN,rO⟩:=by
 refine ⟨h1,h2,?_,?_⟩;·exact (h.n.oF (M':=fun k=>k<n) (fun k _ hk=>h.old k ah)).jD fun k hk hlt=>by have:=(h.n.lt k hk).1;omega
 exact (h.o.oF (M':=fun k=>k<n) (fun k _ hk=>h.old k ah)).jD fun k hk hlt=>by have:=(h.o.lt k hk).1;omega
theorem Mk.init (w:World) (inp st:Int):Mk w.heap.size (fun k=>k<=w.heap.size) (w.alloc (.cells #[.int .i64 inp,.int .i64 st,.slice none 0 0,.slice none 0 0] 24)) w.heap.size inp st none 0 [] none 0 []:=
 ⟨fun q hq=>Nat.le_of_lt hq,bM _,dS w _,Ow.nil,Ow.nil,fun k hk=>by simp [Value.ownBlock] at hk,fun k hk=>by simp [Value.ownBlock] at hk,fun k k' hk=>by simp [Value.ownBlock] at hk,bM _,
  fun q _ h2=>by simp;omega⟩
theorem Mk.notM (h:Mk B0 M w bo inp st aN cN rN aO cO rO) {g:Nat} (hg:w.heap.size<=g):¬M g:=fun hm=>by have:=h.lt g (by have:=h.b0;have:=h.zD;omega) hm;omega
theorem Ja {w:World} {g:Nat} {x0 x1 x2 x3 y0 y1 y2 y3:Value} {T:TypeId} (h:w.heap[g]? =some (.cells #[x0,x1,x2,x3] T (0,0))):((((w.setCell ⟨g,0,none⟩ y0).setCell ⟨g,1,none⟩ y1).setCell ⟨g,2,none⟩ y2).setCell ⟨g,3,none⟩ y3).heap[g]? =some (.cells #[y0,y1,y2,y3] T (0,0)):=by
 rw [gT _ _ _ _ _ _ (gT _ _ _ _ _ _ (gT _ _ _ _ _ _ (gT _ _ _ _ _ _ h)))];rfl
theorem kU {w:World} {g:Nat} {y0 y1 y2 y3:Value} {T:TypeId} (h:w.heap[g]? =some (.cells #[y0,y1,y2,y3] T (0,0))):w.cell? ⟨g,0,none⟩=some y0/\w.cell? ⟨g,1,none⟩=some y1/\w.cell? ⟨g,2,none⟩=some y2/\w.cell? ⟨g,3,none⟩=some y3:=by
 refine ⟨?_,?_,?_,?_⟩<;>rw [ap2 _ _ _ _ _ _ h]<;>rfl
end
section
variable {P:Program} {w:World} {o:Oper} {a:Act} {ops:Array Oper} {rest:List Oper} {Q:Exit->Act->World->Prop}
theorem ql {K:Act->World->Prop} {l:List Int} {s x:Operand} {t e:TypeId} {B:Nat} {M:Nat->Prop} {v:Value} {g:Nat} {c:Nat} {y:Int} (hop:o.op= .call {callee:= .builtin .append,args:= #[s,x],argTypes:= #[t,t]}) (ht:P.underlying t=some (.slice e)) (hi:(P.info? e).map (fun i=>(i.zero,i.size,i.bytes))=some (some (.int .i64 0),1,8)) (hs:a.eval s=v) (hx:a.eval x= .slice (some ⟨g,0,none⟩) 1 c) (jk:Ow B M w e v l) (lU:w.cell? ⟨g,0,none⟩=some (.int .i64 y)) (hy:i64 y) (iX:l.length<1000000000000) (hB:B<=w.heap.size) (h:∀(a':Option Addr) (c':Nat) (l':List Int) (w':World),Hid (l'=l++[y])->Ow B M w' e (.slice a' l'.length c') l'->Hid (∀k,(Value.slice a' l'.length c').ownBlock=some k->(v.ownBlock=some k\/k=w.heap.size)/\k<w'.heap.size)-> w.grownBy w' v.ownBlock->K (a.put o.dst (.slice a' l'.length c')) w'):o.wp P a w K Q:=by
 refine sF s x t hop e (.int .i64 0) 1 8 ht hi rfl (by decide) B (fun _=>True) v l hs rfl jk.anyM (fun _ _=>trivial) ⟨g,0,none⟩ c [.int .i64 y] y hx ⟨rfl,hy⟩ ?_ ?_ ah aS hB fun a' c' l' w' h1 h2 h3 h4=>h a' c' l' w' h1 h2.anyM h3 h4
 ·intro j u hj;match j,hj with
  |0,hj=>simp at hj;subst hj;simpa [Addr.add] using lU
 intro u hu;simp at hu;subst hu;rfl
theorem mG {l:List Int} {s x:Operand} {t e:TypeId} {B:Nat} {M:Nat->Prop} {v:Value} {g:Nat} {c:Nat} {y:Int} (hg:o.guard=none) (hop:o.op= .call {callee:= .builtin .append,args:= #[s,x],argTypes:= #[t,t]})
    (ht:P.underlying t=some (.slice e)) (hi:(P.info? e).map (fun i=>(i.zero,i.size,i.bytes))=some (some (.int .i64 0),1,8))
    (hs:a.eval s=v) (hx:a.eval x= .slice (some ⟨g,0,none⟩) 1 c) (jk:Ow B M w e v l) (lU:w.cell? ⟨g,0,none⟩=some (.int .i64 y)) (hy:i64 y)
    (iX:l.length<1000000000000) (hB:B<=w.heap.size)
    (h:∀(a':Option Addr) (c':Nat) (l':List Int) (w':World),Hid (l'=l++[y])->Ow B M w' e (.slice a' l'.length c') l'->Hid (∀k,(Value.slice a' l'.length c').ownBlock=some k->(v.ownBlock=some k\/k=w.heap.size)/\k<w'.heap.size)->
     w.grownBy w' v.ownBlock->wpList P ops Q rest (a.put o.dst (.slice a' l'.length c')) w'):wpList P ops Q (o::rest) a w:=
 aqi hg fun _ hK=>ql hop ht hi hs hx jk lU hy iX hB fun a' c' l' w' h2 h3 h4 h5=>hK _ _ (h a' c' l' w' h2 h3 h4 h5)
end
section
variable {B0:Nat} {M M':Nat->Prop} {w w':World} {bo:Nat} {inp st:Int} {aN:Option Addr} {cN:Nat} {rN:List (List Int)} {aO:Option Addr} {cO:Nat} {rO:List (List Int)}
theorem Ow.kept {B:Nat} {T:TypeId} {v:Value} {l:List Int} (h:Ow B M w T v l) (hs:w.heap.size<=w'.heap.size) (hb:∀k,v.ownBlock=some k->w'.heap[k]? =w.heap[k]?):Ow B M w' T v l:=
 (h.anyM (M':=fun _=>True)).ext (M':=M) ⟨hs,fun _ _ hm=>absurd trivial hm,fun _ _ _=>trivial⟩ hb
theorem Mk.touch (h:Mk B0 M w bo inp st aN cN rN aO cO rO) (e:Ext M M w w') (h0:w'.heap[bo]? =w.heap[bo]?) (hn:∀k,(Value.slice aN rN.length cN).ownBlock=some k->w'.heap[k]? =w.heap[k]?)
    (ho:∀k,(Value.slice aO rO.length cO).ownBlock=some k->w'.heap[k]? =w.heap[k]?):Mk B0 M w' bo inp st aN cN rN aO cO rO:=
 ⟨h.old,h.NW,h0.trans h.blk,h.n.ext e hn,h.o.ext e ho,h.mn,h.mo,h.no,h.b0,fun q h1 h2=>eZ (h.lt q h1 h2) e.size⟩
theorem Mk.sub (h:Mk B0 M w bo inp st aN cN rN aO cO rO) (hs:∀k,M' k->M k) (pq:∀q,q<B0->M' q) (NY:M' bo) (hn:∀k,(Value.slice aN rN.length cN).ownBlock=some k->M' k)
    (ho:∀k,(Value.slice aO rO.length cO).ownBlock=some k->M' k):Mk B0 M' w bo inp st aN cN rN aO cO rO:=
 ⟨pq,NY,h.blk,h.n.oF fun k _ hk=>hs k hk,h.o.oF fun k _ hk=>hs k hk,fun k hk=>⟨hn k hk,(h.mn k hk).2⟩,fun k hk=>⟨ho k hk,(h.mo k hk).2⟩,h.no,h.b0,fun q h1 h2=>h.lt q h1 (hs q h2)⟩
end
section
variable {M:Nat->Prop} {w:World}
theorem Sl.lit {xs:List Int} {vs:Array Value} {b n:Nat} {T:TypeId} (h:w.heap[b]? =some (.cells vs T (0,0))) (hv:vs.toList=xs.map (.int .i64)) (hM:¬M b) (hx:∀x∈xs,i64 x) (hn:n=xs.length) (hs:n<=maxLen):Sl M w (some ⟨b,0,none⟩) n xs:=by
 refine ⟨ah,hs,fun j x hj=>⟨b,0,[.int .i64 x],rfl,?_,hM,⟨rfl,hx x (bV hj)⟩,fun i u hi=> ?_⟩⟩;·exact (Array.getElem?_eq_some_iff.1 h).1
 obtain ⟨rfl,rfl⟩:i=0/\u= .int .i64 x:=by
  rcases i with _|i;·simpa using hi.symm
  simp at hi
 have e:vs[j]? =some (.int .i64 x):=by rw [<-aqV,hv,dP,hj];rfl
 rw [ap2 _ _ _ _ _ _ h];simpa [GR.sz] using e
theorem Sl.Wu {rows:List (List Int)} {vs:Array Value} {b n:Nat} {T:TypeId} (h:w.heap[b]? =some (.cells vs T (0,0))) (hM:¬M b) (hn:n=rows.length) (hs:n<=maxLen) (hx:∀(j:Nat) (r:List Int),rows[j]? =some r->∃a c,vs[j]? =some (Value.slice a r.length c)/\Sl M w a c r):Sl M w (some ⟨b,0,none⟩) n rows:=by
 refine ⟨ah,hs,fun j x hj=> ?_⟩;obtain ⟨a,c,h1,h2⟩:=hx j x hj;refine ⟨b,0,[.slice a x.length c],rfl,?_,hM,⟨a,c,rfl,h2⟩,fun i u hi=> ?_⟩;·exact (Array.getElem?_eq_some_iff.1 h).1
 obtain ⟨rfl,rfl⟩:i=0/\u= .slice a x.length c:=by
  rcases i with _|i;·simpa using hi.symm
  simp at hi
 rw [ap2 _ _ _ _ _ _ h];simpa [GR.sz] using h1
theorem jL {o o':Obj} {k:Nat} (h:w.heap[k]? =some o):(w.alloc o').heap[k]? =some o:=by
 rw [fA _ _ _ (Array.getElem?_eq_some_iff.1 h).1];exact h
end
def tQ (x y:Int):Int:=if x<y then -1 else if y<x then 1 else 0
theorem zF {x y:Int} (h:x<y):tQ x y= -1:=by unfold tQ;rw [bQ h]
theorem B_ {x y:Int} (h:y<x):tQ x y=1:=by unfold tQ;rw [bO ah,bQ h]
theorem Fv {x y:Int} (h:x=y):tQ x y=0:=by unfold tQ;rw [bO ah,bO ah]
def jc:List Int->List Int->Int
 |[],[]=>0
 |[],_::_=> -1
 |_::_,[]=>1
 |x::xs,y::ys=>if x=y then jc xs ys else tQ x y
def iM (a b:List Int):Int:=if a.length=b.length then jc a b else tQ a.length b.length
theorem JF {a b:List Int} {k:Nat} {x y:Int} (hx:a[k]? =some x) (hy:b[k]? =some y):jc (a.drop k) (b.drop k)=if x=y then jc (a.drop (k+1)) (b.drop (k+1)) else tQ x y:=by
 have ha:k<a.length:=by
  by_cases e:k<a.length;·exact e
  rw [bZ ah] at hx;simp at hx
 have hb:k<b.length:=by
  by_cases e:k<b.length;·exact e
  rw [bZ ah] at hy;simp at hy
 rw [bN ha] at hx;rw [bN hb] at hy;rw [eF ha,eF hb,show a[k]=x by simpa using hx,show b[k]=y by simpa using hy];rfl
theorem RY {a b:List Int} {k:Nat} (ha:k<a.length) (hb:¬k<b.length):jc (a.drop k) (b.drop k)=1:=by
 have hb2:b.drop k=[]:=fZ ah;rw [hb2,eF ha];rfl
theorem Zp {a b:List Int} {k:Nat} (ha:¬k<a.length):jc (a.drop k) (b.drop k)=if k<b.length then -1 else 0:=by
 rw [fZ ah];by_cases hb:k<b.length;·rw [eF hb,bQ hb];rfl
 rw [fZ ah,bO hb];rfl
section
variable {M:Nat->Prop} {w:World} {a b:Option Addr} {c d:Nat}
theorem Lp (x:Int):Calls prog 186 #[.int .i64 x] w fun e w'=>e= .returned (.bool false)/\w'=w:=by
 go_enter func186,ntmps186;go_wp2;go_ret;exact ⟨rfl,rfl⟩
theorem Av (x y:Int):Calls prog 143 #[.int .i64 x,.int .i64 y] w fun e w'=>e= .returned (.int .i64 (tQ x y))/\w'=w:=by
 rcases arL x y with h|h|h;·rw [zF h];go_enter func143,ntmps143;go_wp2_with (go_at_call 186;refine (Lp _).mono ?_;rintro e w' ⟨rfl,rfl⟩);go_ret;exact ⟨rfl,rfl⟩
 ·rw [Fv h];subst h;go_enter func143,ntmps143;go_wp2_with (go_at_call 186;refine (Lp _).mono ?_;rintro e w' ⟨rfl,rfl⟩);go_ret;exact ⟨rfl,rfl⟩
 rw [B_ h];have h2:¬x<y:=ah;go_enter func143,ntmps143;go_wp2_with (go_at_call 186;refine (Lp _).mono ?_;rintro e w' ⟨rfl,rfl⟩);go_ret;exact ⟨rfl,rfl⟩
theorem kQ {x y:Int} (h:x=y):Ending.returned (.int .i64 x)= .returned (.int .i64 y):=by rw [h]
theorem Oc {xs ys:List Int} (h1:Sl M w a c xs) (h2:Sl M w b d ys):Calls prog 144 #[.slice a xs.length c,.slice b ys.length d] w fun e w'=>e= .returned (.int .i64 (jc xs ys))/\w'=w:=by
 have hl1:=h1.le;have hl2:=h2.le;have hL0:Hid (jc xs ys=jc (xs.drop 0) (ys.drop 0)):=rfl;go_enter func144,ntmps144;go_wp2;go_loop [11] (fun i=>∃k:Nat,k<=xs.length/\i= .int .i64 k/\Hid (jc xs ys=jc (xs.drop k) (ys.drop k))/\k<=ys.length) (fun i=>xs.length-(intOf i).toNat);case atStart=>exact ⟨0,ah,rfl,hL0,ah⟩
 case round=>
  clear hL0;obtain ⟨k,hk,rfl,hL,hky⟩:=hrel;by_cases hlt:k<xs.length
  ·obtain ⟨b1,o1,x,rfl,hxc,hx, -⟩:=h1.iC hlt;by_cases hly:k<ys.length
   ·obtain ⟨b2,o2,y,rfl,Ca,hy, -⟩:=h2.iC hly;have HS:=bK (JF hx.out hy.out);have hge:¬ys.length<=k:=ah;rcases arL x y with h|h|h;·have hs:=zF h;have HF:Hid (jc xs ys= -1):=bK (by rw [hL.out,HS.out,bO ah,hs]);go_wp2_with (go_at_call 143;refine (Av _ _).mono ?_;rintro e w' ⟨rfl,rfl⟩);go_ret;exact ⟨kQ HF.out.symm,rfl⟩
    ·have hs:=Fv h;have HF:Hid (jc xs ys=jc (xs.drop (k+1)) (ys.drop (k+1))):=bK (by rw [hL.out,HS.out,bQ h]);clear h;go_wp2_with (go_at_call 143;refine (Av _ _).mono ?_;rintro e w' ⟨rfl,rfl⟩);go_round;case rel=>exact ⟨k+1,ah,by go_num,HF,ah⟩
     case measure=>exact bF
    have hs:=B_ h;have HF:Hid (jc xs ys=1):=bK (by rw [hL.out,HS.out,bO ah,hs]);go_wp2_with (go_at_call 143;refine (Av _ _).mono ?_;rintro e w' ⟨rfl,rfl⟩);go_ret;exact ⟨kQ HF.out.symm,rfl⟩
   have HF:Hid (jc xs ys=1):=bK (by rw [hL.out,RY hlt hly]);have hge:ys.length<=k:=ah;go_wp2;go_ret;exact ⟨kQ HF.out.symm,rfl⟩
  have HE:=bK (Zp (a:=xs) (b:=ys) hlt);have hkx:k=xs.length:=ah;by_cases hly:xs.length<ys.length
  ·have HF:Hid (jc xs ys= -1):=by unfold Hid;rw [hL.out,HE.out,bQ ah]
   clear hkx;go_wp2;go_ret;exact ⟨kQ HF.out.symm,rfl⟩
  have HF:Hid (jc xs ys=0):=bK (by rw [hL.out,HE.out,bO ah]);clear hkx;go_wp2;go_ret;exact ⟨kQ HF.out.symm,rfl⟩
def orW (l:List Int):Int:=(l.find? fun x=>decide (x≠0)).getD 0
theorem afw {l:List Int} {k:Nat} {x:Int} (h:∀y∈l.take k,y=0) (hx:l[k]? =some x) (h0:x≠0):orW l=x:=by
 have hk:k<l.length:=by
  by_cases e:k<l.length;·exact e
  rw [bZ ah] at hx;simp at hx
 have e:l=l.take k++x::l.drop (k+1):=by
  conv=>lhs;rw [<-fJ k l]
  rw [eF hk];rw [bN hk] at hx;rw [show l[k]=x by simpa using hx]
 unfold orW;rw [e,List.find?_append];have:(l.take k).find? (fun x=>decide (x≠0))=none:=by rw [arb];intro y hy;simp [h y hy]
 rw [this];simp [h0]
theorem Zq {l:List Int} (h:∀y∈l,y=0):orW l=0:=by
 unfold orW;have:l.find? (fun x=>decide (x≠0))=none:=by rw [arb];intro y hy;simp [h y hy]
 rw [this];rfl
theorem afx {l:List Int} (h:Sl M w a c l):Calls prog 142 #[.slice a l.length c] w fun e w'=>e= .returned (.int .i64 (orW l))/\w'=w:=by
 have hl:=h.le;have h0:Hid (∀y∈l.take 0,y=0):=fun y hy=>by simp at hy
 go_enter func142,ntmps142;go_wp2;go_loop [8] (fun i=>∃k:Nat,k<=l.length/\i= .int .i64 k/\Hid (∀y∈l.take k,y=0)) (fun i=>l.length-(intOf i).toNat);case atStart=>exact ⟨0,ah,rfl,h0⟩
 case round=>
  clear h0;obtain ⟨k,hk,rfl,hz⟩:=hrel;by_cases hlt:k<l.length
  ·obtain ⟨b1,o1,x,rfl,hxc,hx, -⟩:=h.iC hlt;by_cases h0:x=0
   ·have hb:(x !=0)=false:=by simp [h0]
    have hz2:Hid (∀y∈l.take (k+1),y=0):=by
     intro y hy;rw [dh,hx.out] at hy;simp only [aqd,eG,dZ] at hy;rcases hy with hy|rfl;·exact hz.out y hy
     exact h0
    clear h0;go_wp2;go_round;case rel=>exact ⟨k+1,ah,by go_num,hz2⟩
    case measure=>exact bF
   have hb:(x !=0)=true:=by simp [h0]
   have HF:=bK (afw hz.out hx.out h0);clear h0;go_wp2;go_ret;exact ⟨kQ HF.out.symm,rfl⟩
  have HF:=bK (Zq (l:=l) (by have:=hz.out;rwa [bY ah] at this));go_wp2;go_ret;exact ⟨kQ HF.out.symm,rfl⟩
theorem zG:∀(a b:List Int),jc a b= -1\/jc a b=0\/jc a b=1
 |[],[]=>by simp [jc]
 |[],_::_=>by simp [jc]
 |_::_,[]=>by simp [jc]
 |x::xs,y::ys=>by
  simp only [jc]
  split
  ·exact zG xs ys
  unfold tQ;split
  ·simp
  split<;>simp
theorem uy (x y:Int):tQ x y= -1\/tQ x y=0\/tQ x y=1:=by unfold tQ;split<;>(try split)<;>simp
theorem acM (a b:List Int):orW [tQ a.length b.length,jc a b]=iM a b:=by
 unfold iM orW;by_cases h:a.length=b.length;·rw [bQ h,Fv (by rw [h])];rcases zG a b with e|e|e<;>simp [e]
 rw [bO h];have:tQ (a.length:Int) b.length≠0:=by
  unfold tQ;split;·simp
  split;·simp
  omega
 simp [this]
end
end
section
open Tryz
def jf:List Int->List Int->Nat
 |x::xs,y::ys=>if x=y then jf xs ys+1 else 0
 |[],_=>0
 |_::_,[]=>0
theorem Aw:∀(a b:List Int),jf a b<=a.length/\jf a b<=b.length
 |[],b=>by cases b<;>simp [jf]
 |_::_,[]=>by simp [jf]
 |x::xs,y::ys=>by
  have:=Aw xs ys
  simp only [jf,fD]
  split<;>omega
theorem uz {x:Int} {xs ys:List Int}:jf (x::xs) (x::ys)=jf xs ys+1:=by simp [jf]
theorem yx {x y:Int} {xs ys:List Int} (h:x≠y):jf (x::xs) (y::ys)=0:=by simp [jf,h]
theorem zH (a:List Int):jf a []=0:=by cases a<;>simp [jf]
theorem zI (b:List Int):jf [] b=0:=by cases b<;>simp [jf]
theorem uD {a b:List Int} {k:Nat} {x:Int} (h:jf a b=k+jf (a.drop k) (b.drop k)) (hx:a[k]? =some x) (hy:b[k]? =some x):jf a b=(k+1)+jf (a.drop (k+1)) (b.drop (k+1)):=by
 have ha:k<a.length:=by
  by_cases e:k<a.length;·exact e
  rw [bZ ah] at hx;simp at hx
 have hb:k<b.length:=by
  by_cases e:k<b.length;·exact e
  rw [bZ ah] at hy;simp at hy
 rw [bN ha] at hx;rw [bN hb] at hy;rw [eF ha,eF hb,show a[k]=x by simpa using hx,show b[k]=x by simpa using hy,uz] at h;omega
theorem uE {a b:List Int} {k:Nat} {x y:Int} (h:jf a b=k+jf (a.drop k) (b.drop k)) (hx:a[k]? =some x) (hy:b[k]? =some y) (hxy:x≠y):jf a b=k:=by
 have ha:k<a.length:=by
  by_cases e:k<a.length;·exact e
  rw [bZ ah] at hx;simp at hx
 have hb:k<b.length:=by
  by_cases e:k<b.length;·exact e
  rw [bZ ah] at hy;simp at hy
 rw [bN ha] at hx;rw [bN hb] at hy;rw [eF ha,eF hb,show a[k]=x by simpa using hx,show b[k]=y by simpa using hy,yx hxy] at h;omega
theorem uF {a b:List Int} {k:Nat} (h:jf a b=k+jf (a.drop k) (b.drop k)) (hk:a.length<=k\/b.length<=k):jf a b=k:=by
 rcases hk with hk|hk;·rw [fZ hk,zI] at h;omega
 have h2:b.drop k=[]:=fZ hk;rw [h2,zH] at h;omega
theorem xq:∀(a b:List Int),jc a b=jc (a.drop (jf a b)) (b.drop (jf a b))
 |[],b=>by rw [zI];simp
 |x::xs,[]=>by rw [zH];simp
 |x::xs,y::ys=>by
  by_cases h:x=y
  ·subst h
   rw [uz]
   simp only [asj]
   rw [<-xq xs ys]
   simp [jc]
  rw [yx h];simp
theorem Wv {a b:List Int} (ha:jf a b=a.length) (hb:jf a b=b.length):jc a b=0:=by
 rw [xq,fZ ah];have:b.drop (jf a b)=[]:=fZ ah;rw [this];rfl
theorem RZ {a b:List Int} (ha:jf a b=a.length) (hb:¬jf a b=b.length):jc a b= -1:=by
 have hle:=(Aw a b).2;rw [xq,fZ ah,eF (l:=b) ah];rfl
theorem Od {a b:List Int} (ha:¬jf a b=a.length) (hb:jf a b=b.length):jc a b=1:=by
 have hle:=(Aw a b).1;have:b.drop (jf a b)=[]:=fZ ah;rw [xq,this,eF (l:=a) ah];rfl
theorem Lr:∀{a b:List Int} {x y:Int},a[jf a b]? =some x->b[jf a b]? =some y->x≠y
 |[],b,x,y,hx,_=>by simp at hx
 |u::xs,[],x,y,_,hy=>by simp at hy
 |u::xs,v::ys,x,y,hx,hy=>by
  by_cases h:u=v
  ·subst h
   rw [uz,ar0] at hx hy
   exact Lr hx hy
  rw [yx h,arZ] at hx hy
  obtain rfl:u=x:=iq hx
  obtain rfl:v=y:=iq hy
  exact h
theorem acN {a b:List Int} {x y:Int} (hx:a[jf a b]? =some x) (hy:b[jf a b]? =some y):jc a b=tQ x y:=by
 have hne:=Lr hx hy;rw [xq,JF hx hy,bO hne]
theorem oW {a b:List Int}:jf a b=b.length↔b<+:a:=by
 constructor
 ·intro h;induction b generalizing a with
  |nil=>exact List.nil_prefix
  |cons y ys ih=>
   cases a with
   |nil=>rw [zI] at h;simp at h
   |cons x xs=>
    by_cases e:x=y;·subst e;rw [uz,fD] at h;rw [aqW];exact ⟨rfl,ih ah⟩
    rw [yx e,fD] at h;omega
 rintro ⟨t,rfl⟩;induction b with
 |nil=>rw [gJ,zH];rfl
 |cons y ys ih=>rw [gu,uz,ih];simp
end
section
open Tryz
open Go.RowKit
section
variable {M:Nat->Prop} {w:World} {a b:Option Addr} {c d:Nat}
theorem qV {α:Type} [GR α] {M:Nat->Prop} {w wr:World} {a:Option Addr} {c:Nat} {l:List α} (h:Hid (∃n,wr=w.drewN n)) (hs:Sl M w a c l):Sl M wr a c l:=by
 obtain ⟨n,e⟩:=h.out;rw [e];exact hs.drewN n
theorem lV {w wr:World} (h:Hid (∃n,wr=w.drewN n)) (m:Nat):Hid (∃n,wr.drewN m=w.drewN n):=by
 obtain ⟨n,rfl⟩:=h.out;exact ⟨_,ap4 _ _ _⟩
theorem Ay {xs ys:List Int} (h1:Sl M w a c xs) (h2:Sl M w b d ys):Calls prog 106 #[.slice a xs.length c,.slice b ys.length d] w fun e w'=>e= .returned (.int .i64 (jf xs ys))/\Hid (∃n,w'=w.drewN n):=by
 have hl1:=h1.le;have hl2:=h2.le;have hC0:Hid (jf xs ys=0+jf (xs.drop 0) (ys.drop 0)):=bK aH;have hD0:Hid (∃n,w=w.drewN n):=⟨0,rfl⟩;go_enter func106,ntmps106;go_wp2;go_loopw [5] (fun i wr=>∃k:Nat,k<=xs.length/\k<=ys.length/\i= .int .i64 k/\Hid (jf xs ys=k+jf (xs.drop k) (ys.drop k))/\Hid (∃n,wr=w.drewN n)) (fun i _=>xs.length-(intOf i).toNat);case atStart=>exact ⟨0,ah,ah,rfl,hC0,hD0⟩
 case round=>
  clear hC0 hD0;obtain ⟨k,hkx,hky,rfl,hC,hD⟩:=hrel;obtain ⟨w1,rfl⟩:=iA wr;by_cases hx:k<xs.length
  ·have hxd:decide (k<xs.length)=true:=by simp [hx]
   by_cases hy:k<ys.length
   ·have hyd:decide (k<ys.length)=true:=by simp [hy]
    obtain ⟨b1,o1,x,rfl,hxc,hxk, -⟩:=(qV hD h1).iC hx;obtain ⟨b2,o2,y,rfl,Ca,hyk, -⟩:=(qV hD h2).iC hy;by_cases hxy:x=y
    ·have hb:(x==y)=true:=by simp [hxy]
     have hC2:Hid (jf xs ys=(k+1)+jf (xs.drop (k+1)) (ys.drop (k+1))):=uD hC.out hxk.out (by rw [hxy];exact hyk.out);clear hxy;go_wp2;refine go_quiet fun nq=> ?_;go_wp2;go_roundw;case rel=>exact ⟨k+1,ah,ah,by go_num,hC2,lV hD _⟩
     case measure=>exact bF
    have hb:(x==y)=false:=by simp [hxy]
    have HF:=bK (uE hC.out hxk.out hyk.out hxy);clear hxy;go_wp2;refine go_quiet fun nq=> ?_;go_wp2;go_ret;exact ⟨kQ (by rw [HF.out]),lV hD _⟩
   have hyd:decide (k<ys.length)=false:=aJ;have HF:=bK (uF hC.out (.inr ah));go_wp2;refine go_quiet fun nq=> ?_;go_wp2;go_ret;exact ⟨kQ (by rw [HF.out]),lV hD _⟩
  have hxd:decide (k<xs.length)=false:=aJ;have HF:=bK (uF hC.out (.inl ah));go_wp2;refine go_quiet fun nq=> ?_;go_wp2;go_ret;exact ⟨kQ (by rw [HF.out]),lV hD _⟩
theorem UO {xs ys:List Int} (h1:Sl M w a c xs) (h2:Sl M w b d ys):Calls prog 117 #[.slice a xs.length c,.slice b ys.length d] w fun e w'=>e= .returned (.int .i64 (jf xs ys))/\Hid (∃n,w'=w.drewN n):=by
 have hl1:=h1.le;have hl2:=h2.le;have hC0:Hid (jf xs ys=0+jf (xs.drop 0) (ys.drop 0)):=bK aH;have hD0:Hid (∃n,w=w.drewN n):=⟨0,rfl⟩;go_enter func117,ntmps117;go_wp2
 ·go_loopw [11] (fun i wr=>∃k:Nat,k<=xs.length/\k<=ys.length/\i= .int .i64 k/\Hid (jf xs ys=k+jf (xs.drop k) (ys.drop k))/\Hid (∃n,wr=w.drewN n)) (fun i _=>ys.length-(intOf i).toNat);case atStart=>exact ⟨0,ah,ah,rfl,hC0,hD0⟩
  case round=>
   clear hC0 hD0;obtain ⟨k,hkx,hky,rfl,hC,hD⟩:=hrel;obtain ⟨w1,rfl⟩:=iA wr;by_cases hk:k<ys.length
   ·have hx:k<xs.length:=ah;have hy:k<ys.length:=ah;obtain ⟨b1,o1,x,rfl,hxc,hxk, -⟩:=(qV hD h1).iC hx;obtain ⟨b2,o2,y,rfl,Ca,hyk, -⟩:=(qV hD h2).iC hy;by_cases hxy:x=y
    ·have hb:(x !=y)=false:=by simp [hxy]
     have hC2:Hid (jf xs ys=(k+1)+jf (xs.drop (k+1)) (ys.drop (k+1))):=uD hC.out hxk.out (by rw [hxy];exact hyk.out);clear hxy;go_wp2;refine go_quiet fun nq=> ?_;go_wp2;go_roundw;case rel=>exact ⟨k+1,ah,ah,by go_num,hC2,lV hD _⟩
     case measure=>exact bF
    have hb:(x !=y)=true:=by simp [hxy]
    have HF:=bK (uE hC.out hxk.out hyk.out hxy);clear hxy;go_wp2;refine go_quiet fun nq=> ?_;go_wp2;go_ret;exact ⟨kQ (by rw [HF.out]),lV hD _⟩
   have HF:=bK (uF hC.out ah);have hkB:Hid (k=ys.length):=bK ah;go_wp2
   all_goals
    first
     |(exfalso;omega)
     |(go_ret;exact ⟨kQ (by rw [HF.out,hkB.out]),hD⟩)
 go_loopw [11] (fun i wr=>∃k:Nat,k<=xs.length/\k<=ys.length/\i= .int .i64 k/\Hid (jf xs ys=k+jf (xs.drop k) (ys.drop k))/\Hid (∃n,wr=w.drewN n)) (fun i _=>xs.length-(intOf i).toNat);case atStart=>exact ⟨0,ah,ah,rfl,hC0,hD0⟩
 case round=>
  clear hC0 hD0;obtain ⟨k,hkx,hky,rfl,hC,hD⟩:=hrel;obtain ⟨w1,rfl⟩:=iA wr;by_cases hk:k<xs.length
  ·have hx:k<xs.length:=ah;have hy:k<ys.length:=ah;obtain ⟨b1,o1,x,rfl,hxc,hxk, -⟩:=(qV hD h1).iC hx;obtain ⟨b2,o2,y,rfl,Ca,hyk, -⟩:=(qV hD h2).iC hy;by_cases hxy:x=y
   ·have hb:(x !=y)=false:=by simp [hxy]
    have hC2:Hid (jf xs ys=(k+1)+jf (xs.drop (k+1)) (ys.drop (k+1))):=uD hC.out hxk.out (by rw [hxy];exact hyk.out);clear hxy;go_wp2;refine go_quiet fun nq=> ?_;go_wp2;go_roundw;case rel=>exact ⟨k+1,ah,ah,by go_num,hC2,lV hD _⟩
    case measure=>exact bF
   have hb:(x !=y)=true:=by simp [hxy]
   have HF:=bK (uE hC.out hxk.out hyk.out hxy);clear hxy;go_wp2;refine go_quiet fun nq=> ?_;go_wp2;go_ret;exact ⟨kQ (by rw [HF.out]),lV hD _⟩
  have HF:=bK (uF hC.out ah);have hkB:Hid (k=xs.length):=bK ah;go_wp2
  all_goals
   first
    |(exfalso;omega)
    |(go_ret;exact ⟨kQ (by rw [HF.out,hkB.out]),hD⟩)
end
theorem acO {xs ys:List Int} (hl:xs.length=ys.length):jf xs ys=xs.length↔xs=ys:=by
 rw [hl,oW];constructor;·intro h;exact (h.eq_of_length hl.symm).symm
 rintro rfl;exact List.prefix_refl _
section
variable {M:Nat->Prop} {w:World} {a b:Option Addr} {c d:Nat}
theorem acP {xs ys:List Int} (h1:Sl M w a c xs) (h2:Sl M w b d ys):Calls prog 105 #[.slice a xs.length c,.slice b ys.length d] w fun e w'=>e= .returned (.int .i64 (jc xs ys))/\w'=w:=by
 go_enter func105,ntmps105;go_wp2_with fail;refine (Oc h1 h2).mono ?_;rintro e w1 ⟨rfl,hw⟩;obtain rfl:w=w1:=hw.symm;go_wp2;go_ret;exact ⟨rfl,rfl⟩
theorem Oe {xs ys:List Int} (h1:Sl M w a c xs) (h2:Sl M w b d ys):Calls prog 62 #[.slice a xs.length c,.slice b ys.length d] w fun e w'=>e= .returned (.bool (decide (jf xs ys=ys.length)))/\Hid (∃n,w'=w.drewN n):=by
 by_cases h:jf xs ys=ys.length
 ·rw [dw h];have hb:(((jf xs ys:Nat):Int)==((ys.length:Nat):Int))=true:=by simp [h]
  have HC:=bK (UO h1 h2);clear h;go_enter func62,ntmps62;go_wp2_with fail;refine (HC.out).mono ?_;rintro e w1 ⟨rfl,hD⟩;go_wp2;go_ret;exact ⟨rfl,hD⟩
 rw [cZ h];have hb:(((jf xs ys:Nat):Int)==((ys.length:Nat):Int))=false:=aJ;have HC:=bK (UO h1 h2);clear h;go_enter func62,ntmps62;go_wp2_with fail;refine (HC.out).mono ?_;rintro e w1 ⟨rfl,hD⟩;go_wp2;go_ret;exact ⟨rfl,hD⟩
theorem Ww {xs ys:List Int} (h1:Sl M w a c xs) (h2:Sl M w b d ys):Calls prog 101 #[.slice a xs.length c,.slice b ys.length d] w fun e w'=>e= .returned (.bool (decide (jf xs ys=ys.length)))/\Hid (∃n,w'=w.drewN n):=by
 by_cases h:jf xs ys=ys.length
 ·rw [dw h];have hb:(((jf xs ys:Nat):Int)==((ys.length:Nat):Int))=true:=by simp [h]
  have HC:=bK (Ay h1 h2);clear h;go_enter func101,ntmps101;go_wp2_with fail;refine (HC.out).mono ?_;rintro e w1 ⟨rfl,hD⟩;go_wp2;go_ret;exact ⟨rfl,hD⟩
 rw [cZ h];have hb:(((jf xs ys:Nat):Int)==((ys.length:Nat):Int))=false:=aJ;have HC:=bK (Ay h1 h2);clear h;go_enter func101,ntmps101;go_wp2_with fail;refine (HC.out).mono ?_;rintro e w1 ⟨rfl,hD⟩;go_wp2;go_ret;exact ⟨rfl,hD⟩
theorem JG {xs ys:List Int} (h1:Sl M w a c xs) (h2:Sl M w b d ys):Calls prog 159 #[.slice a xs.length c,.slice b ys.length d] w fun e w'=>e= .returned (.bool (decide (xs=ys)))/\Hid (∃n,w'=w.drewN n):=by
 have hD0:Hid (∃n,w=w.drewN n):=⟨0,rfl⟩;by_cases hl:xs.length=ys.length
 ·have hlb:(((xs.length:Nat):Int)==((ys.length:Nat):Int))=true:=by simp [hl]
  have HC:=bK (Ay h1 h2);have HA:=bK (acO hl);by_cases h:xs=ys
  ·rw [dw h];have hb:(((jf xs ys:Nat):Int)==((xs.length:Nat):Int))=true:=by have:=HA.out.2 h;simp [this]
   clear h hl;go_enter func159,ntmps159;go_wp2_with fail;refine (HC.out).mono ?_;rintro e w1 ⟨rfl,hD⟩;go_wp2;go_ret;exact ⟨rfl,hD⟩
  rw [cZ h];have hb:(((jf xs ys:Nat):Int)==((xs.length:Nat):Int))=false:=by have h3:¬jf xs ys=xs.length:=fun e=>h (HA.out.1 e);simp;omega
  clear h hl;go_enter func159,ntmps159;go_wp2_with fail;refine (HC.out).mono ?_;rintro e w1 ⟨rfl,hD⟩;go_wp2;go_ret;exact ⟨rfl,hD⟩
 have hlb:(((xs.length:Nat):Int)==((ys.length:Nat):Int))=false:=aJ;rw [cZ (fun e=>hl (by rw [e]))];clear hl;go_enter func159,ntmps159;go_wp2;go_ret;exact ⟨rfl,hD0⟩
end
section
variable {M M' M'':Nat->Prop} {w:World} {a a' a'':Option Addr} {c c' c'':Nat} {T:TypeId}
theorem Fw {α:Type} [GR α] {l:List α} (h:Sl M w a c l) (o:Obj):Sl (fun _=>False) (w.alloc o) a c l:=(h.anti (M':=fun _=>False) fun _ _ h=>h.elim).alloc o
theorem UQ {r s:List Int} {n m:Nat} (h:Sl M w a c r) (h2:Sl M' w a' c' s) (hn:n=r.length) (hm:m=s.length):Sl (fun _=>False) (w.alloc (.cells #[.slice a n c,.slice a' m c'] T)) (some ⟨w.heap.size,0,none⟩) 2 [r,s]:=by
 subst hn hm;refine Sl.Wu (dS _ _) id rfl aS fun j x hj=> ?_;match j,hj with
 |0,hj=>simp at hj;subst hj;exact ⟨a,c,rfl,Fw h _⟩
 |1,hj=>simp at hj;subst hj;exact ⟨a',c',rfl,Fw h2 _⟩
theorem aia {r s t:List Int} {n m k:Nat} (h:Sl M w a c r) (h2:Sl M' w a' c' s) (h3:Sl M'' w a'' c'' t) (hn:n=r.length) (hm:m=s.length) (hk:k=t.length):Sl (fun _=>False) (w.alloc (.cells #[.slice a n c,.slice a' m c',.slice a'' k c''] T)) (some ⟨w.heap.size,0,none⟩) 3 [r,s,t]:=by
 subst hn hm hk;refine Sl.Wu (dS _ _) id rfl aS fun j x hj=> ?_;match j,hj with
 |0,hj=>simp at hj;subst hj;exact ⟨a,c,rfl,Fw h _⟩
 |1,hj=>simp at hj;subst hj;exact ⟨a',c',rfl,Fw h2 _⟩
 |2,hj=>simp at hj;subst hj;exact ⟨a'',c'',rfl,Fw h3 _⟩
theorem acQ (w:World) (v:Value) (T:TypeId) {n:Nat} (hn:w.heap.size=n):(w.alloc (.cells #[v] T)).cell? ⟨n,0,none⟩=some v:=by
 have h:=dS w (.cells #[v] T);rw [hn] at h;rw [ap2 _ _ _ _ _ _ h];rfl
end
theorem Dh (r s:List Int):[r,s].flatten=r++s:=aH
theorem flat3 (r s t:List Int):[r,s,t].flatten=r++(s++t):=aH
def jI (w:List Int) (n:Int):Int:=if n<1\/1024<n then 2 else if 1024<w.length then 3 else if ∃a∈w,a<0\/n<=a then 1 else 0
theorem R_ {w:List Int} {n:Int} (h:n<1\/1024<n):jI w n=2:=by unfold jI;rw [bQ h]
theorem Zr {w:List Int} {n:Int} (h:¬(n<1\/1024<n)) (h2:1024<w.length):jI w n=3:=by unfold jI;rw [bO h,bQ h2]
theorem Zt {w:List Int} {n:Int} (h:¬(n<1\/1024<n)) (h2:¬1024<w.length) (h3:∃a∈w,a<0\/n<=a):jI w n=1:=by unfold jI;rw [bO h,bO h2,bQ h3]
theorem Sb {w:List Int} {n:Int} (h:¬(n<1\/1024<n)) (h2:¬1024<w.length) (h3:¬∃a∈w,a<0\/n<=a):jI w n=0:=by unfold jI;rw [bO h,bO h2,bO h3]
section
variable {M:Nat->Prop} {w:World} {a:Option Addr} {c:Nat}
theorem Zu (n:Int) (h:¬(n<1\/1024<n)):Calls prog 110 #[.int .i64 n] w fun e w'=>e= .returned (.bool true)/\w'=w:=by
 have h1:1<=n:=ah;have h2:n<=1024:=ah;clear h;go_enter func110,ntmps110;go_wp2;go_ret;exact ⟨rfl,rfl⟩
theorem acR (n:Int) (h:n<1\/1024<n):Calls prog 110 #[.int .i64 n] w fun e w'=>e= .returned (.bool false)/\w'=w:=by
 by_cases h0:1<=n;·have h1:¬n<=1024:=ah;clear h;go_enter func110,ntmps110;go_wp2;go_ret;exact ⟨rfl,rfl⟩
 clear h;go_enter func110,ntmps110;go_wp2;go_ret;exact ⟨rfl,rfl⟩
def DW (n x:Int):Bool:=decide (x<0\/n<=x)
theorem Sc {n x:Int} (h:x<0\/n<=x):DW n x=true:=by simp [DW,h]
theorem Zv {n x:Int} (h:¬(x<0\/n<=x)):DW n x=false:=by simp [DW,h]
theorem afy {b:Nat} (n x:Int) (hc:w.cell? ⟨b,0,none⟩=some (.int .i64 n)) (h:x<0\/n<=x):Calls prog 112 #[.int .i64 x,.pointer (some ⟨b,0,none⟩)] w fun e w'=>e= .returned (.bool true)/\w'=w:=by
 by_cases h0:x<0;·clear h;go_enter func112,ntmps112;go_wp2;go_ret;exact ⟨rfl,rfl⟩
 have h1:n<=x:=ah;clear h;go_enter func112,ntmps112;go_wp2;go_ret;exact ⟨rfl,rfl⟩
theorem Zw {b:Nat} (n x:Int) (hc:w.cell? ⟨b,0,none⟩=some (.int .i64 n)) (h:¬(x<0\/n<=x)):Calls prog 112 #[.int .i64 x,.pointer (some ⟨b,0,none⟩)] w fun e w'=>e= .returned (.bool false)/\w'=w:=by
 have h0:¬x<0:=ah;have h1:¬n<=x:=ah;clear h;go_enter func112,ntmps112;go_wp2;go_ret;exact ⟨rfl,rfl⟩
theorem Sd {l:List Int} {p:Int->Bool} {k:Nat} {x:Int} (hx:l[k]? =some x) (hp:p x=true) (hn:∀y∈l.take k,p y=false):l.findIdx p=k:=by
 have hk:k<l.length:=by
  by_cases e:k<l.length;·exact e
  rw [bZ ah] at hx;simp at hx
 rw [List.findIdx_eq hk];refine ⟨by rw [bN hk] at hx;rw [show l[k]=x by simpa using hx];exact hp,fun j hj=>hn _ ?_⟩;rw [arn];exact ⟨j,by rw [dL,bQ hj,bN ah]⟩
theorem Og {l:List Int} {p:Int->Bool} {k:Nat} {x:Int} (hx:l[k]? =some x) (hp:p x=false) (hn:∀y∈l.take k,p y=false):∀y∈l.take (k+1),p y=false:=by
 intro y hy;rw [dh,hx] at hy;simp only [aqd,eG,dZ] at hy;rcases hy with hy|rfl;·exact hn y hy
 exact hp
theorem tT {x y:Int} (h:x=y):Ending.returned (.int .i64 x)= .returned (.int .i64 y):=by rw [h]
theorem acS {b:Nat} {l:List Int} (h:Sl M w a c l) (n:Int) (hc:w.cell? ⟨b,0,none⟩=some (.int .i64 n)) (hb:∃x∈l,x<0\/n<=x):Calls prog 162 #[.slice a l.length c,.func (Fn.func 112) #[] #[.pointer (some ⟨b,0,none⟩)]] w fun e w'=>e= .returned (.int .i64 (l.findIdx (DW n)))/\w'=w:=by
 have hll:=h.le;have HB:=bK hb;have h0:Hid (∀y∈l.take 0,DW n y=false):=fun y hy=>by simp at hy
 clear hb;go_enter func162,ntmps162;go_wp2;go_loop [8] (fun i=>∃k:Nat,k<=l.length/\i= .int .i64 k/\Hid (∀y∈l.take k,DW n y=false)) (fun i=>l.length-(intOf i).toNat);case atStart=>exact ⟨0,ah,rfl,h0⟩
 case round=>
  clear h0;obtain ⟨k,hk,rfl,hz⟩:=hrel;have hlt:k<l.length:=by
   by_cases e:k<l.length;·exact e
   obtain ⟨x,hx,hx2⟩:=HB.out;have:=hz.out x (by rw [bY ah];exact hx);rw [Sc hx2] at this;cases this
  obtain ⟨b1,o1,x,rfl,hxc,hx, -⟩:=h.iC hlt;by_cases hbad:x<0\/n<=x;·have HF:=bK (Sd (p:=DW n) hx.out (Sc hbad) hz.out);have HD:=bK hbad;clear hbad;go_wp2_with fail;refine (afy n x hc HD.out).mono ?_;rintro e w2 ⟨rfl,hw⟩;obtain rfl:w=w2:=hw.symm;go_wp2;go_ret;exact ⟨tT (by rw [HF.out]),rfl⟩
  have hz2:Hid (∀y∈l.take (k+1),DW n y=false):=Og hx.out (Zv hbad) hz.out;have HD:=bK hbad;clear hbad;go_wp2_with fail;refine (Zw n x hc HD.out).mono ?_;rintro e w2 ⟨rfl,hw⟩;obtain rfl:w=w2:=hw.symm;go_wp2;go_round;case rel=>exact ⟨k+1,ah,by go_num,hz2⟩
  case measure=>exact bF
theorem afz {b:Nat} {l:List Int} (h:Sl M w a c l) (n:Int) (hc:w.cell? ⟨b,0,none⟩=some (.int .i64 n)) (hb:¬∃x∈l,x<0\/n<=x):Calls prog 162 #[.slice a l.length c,.func (Fn.func 112) #[] #[.pointer (some ⟨b,0,none⟩)]] w fun e w'=>e= .returned (.int .i64 (-1))/\w'=w:=by
 have hll:=h.le;have HB:=bK hb;clear hb;go_enter func162,ntmps162;go_wp2;go_loop [8] (fun i=>∃k:Nat,k<=l.length/\i= .int .i64 k) (fun i=>l.length-(intOf i).toNat);case atStart=>exact ⟨0,ah,rfl⟩
 case round=>
  obtain ⟨k,hk,rfl⟩:=hrel;by_cases hlt:k<l.length
  ·obtain ⟨b1,o1,x,rfl,hxc,hx, -⟩:=h.iC hlt;have HD:=bK (show ¬(x<0\/n<=x) from fun e=>HB.out ⟨x,bV hx.out,e⟩);go_wp2_with fail;refine (Zw n x hc HD.out).mono ?_;rintro e w2 ⟨rfl,hw⟩;obtain rfl:w=w2:=hw.symm;go_wp2;go_round;case rel=>exact ⟨k+1,ah,by go_num⟩
   case measure=>exact bF
  go_wp2;go_ret;exact ⟨rfl,rfl⟩
theorem Zx {b:Nat} {l:List Int} (h:Sl M w a c l) (n:Int) (hc:w.cell? ⟨b,0,none⟩=some (.int .i64 n)) (hb:∃x∈l,x<0\/n<=x):Calls prog 111 #[.slice a l.length c,.func (Fn.func 112) #[] #[.pointer (some ⟨b,0,none⟩)]] w fun e w'=>e= .returned (.bool true)/\w'=w:=by
 have HI:=bK (acS h n hc hb);clear hb hc;go_enter func111,ntmps111;go_wp2_with fail;refine (HI.out).mono ?_;rintro e w2 ⟨rfl,hw⟩;obtain rfl:w=w2:=hw.symm;go_wp2;go_ret;exact ⟨rfl,rfl⟩
theorem acT {b:Nat} {l:List Int} (h:Sl M w a c l) (n:Int) (hc:w.cell? ⟨b,0,none⟩=some (.int .i64 n)) (hb:¬∃x∈l,x<0\/n<=x):Calls prog 111 #[.slice a l.length c,.func (Fn.func 112) #[] #[.pointer (some ⟨b,0,none⟩)]] w fun e w'=>e= .returned (.bool false)/\w'=w:=by
 have HI:=bK (afz h n hc hb);clear hb hc;go_enter func111,ntmps111;go_wp2_with fail;refine (HI.out).mono ?_;rintro e w2 ⟨rfl,hw⟩;obtain rfl:w=w2:=hw.symm;go_wp2;go_ret;exact ⟨rfl,rfl⟩
theorem vG {l:List Int} (h:Sl M w a c l) (n:Int):Calls prog 56 #[.slice a l.length c,.int .i64 n] w fun e w'=>e= .returned (.int .i64 (jI l n))/\Below w.heap.size w w':=by
 have hll:=h.le;have hS:=h.alloc (.cells #[.int .i64 n] 3);have hB:=iB w (.cells #[.int .i64 n] 3);have Di:(w.alloc (.cells #[.int .i64 n] 3)).cell? ⟨w.heap.size,0,none⟩=some (.int .i64 n):=aH;by_cases hn:n<1\/1024<n;·have HF:=bK (R_ (w:=l) hn);have HP:=bK (acR (w:=w.alloc (.cells #[.int .i64 n] 3)) n hn);clear hn;go_enter func56,ntmps56;go_wp2_with fail;refine (HP.out).mono ?_;rintro e w1 ⟨rfl,hw⟩;subst hw;go_wp2;go_ret;exact ⟨tT HF.out.symm,hB⟩
 have HP:=bK (Zu (w:=w.alloc (.cells #[.int .i64 n] 3)) n hn);by_cases hl:1024<l.length;·have HF:=bK (Zr hn hl);clear hn;go_enter func56,ntmps56;go_wp2_with fail;refine (HP.out).mono ?_;rintro e w1 ⟨rfl,hw⟩;subst hw;go_wp2;go_ret;exact ⟨tT HF.out.symm,hB⟩
 by_cases hb:∃x∈l,x<0\/n<=x;·have HF:=bK (Zt hn hl hb);have HC:=bK (Zx hS n Di hb);clear hn hb;go_enter func56,ntmps56;go_wp2_with fail;refine (HP.out).mono ?_;rintro e w1 ⟨rfl,hw⟩;subst hw;go_wp2_with fail;refine (HC.out).mono ?_;rintro e w1 ⟨rfl,hw⟩;subst hw;go_wp2;go_ret;exact ⟨tT HF.out.symm,hB⟩
 have HF:=bK (Sb hn hl hb);have HC:=bK (acT hS n Di hb);clear hn hb;go_enter func56,ntmps56;go_wp2_with fail;refine (HP.out).mono ?_;rintro e w1 ⟨rfl,hw⟩;subst hw;go_wp2_with fail;refine (HC.out).mono ?_;rintro e w1 ⟨rfl,hw⟩;subst hw;go_wp2;go_ret;exact ⟨tT HF.out.symm,hB⟩
end
section
variable {M:Nat->Prop} {w:World} {a:Option Addr} {c:Nat}
theorem Oh (n:Int) (h:¬(n<1\/1024<n)):Calls prog 99 #[.int .i64 n] w fun e w'=>e= .returned (.bool true)/\w'=w:=by
 have h1:1<=n:=ah;have h2:n<=1024:=ah;clear h;go_enter func99,ntmps99;go_wp2;go_ret;exact ⟨rfl,rfl⟩
theorem UR (n:Int) (h:n<1\/1024<n):Calls prog 99 #[.int .i64 n] w fun e w'=>e= .returned (.bool false)/\w'=w:=by
 by_cases h0:1<=n;·have h1:¬n<=1024:=ah;clear h;go_enter func99,ntmps99;go_wp2;go_ret;exact ⟨rfl,rfl⟩
 clear h;go_enter func99,ntmps99;go_wp2;go_ret;exact ⟨rfl,rfl⟩
theorem xu {l:List Int} (h:Sl M w a c l) (n:Int):Calls prog 45 #[.slice a l.length c,.int .i64 n] w fun e w'=>e= .returned (.int .i64 (jI l n))/\w'=w:=by
 have hll:=h.le;by_cases hn:n<1\/1024<n;·have HF:=bK (R_ (w:=l) hn);have HP:=bK (UR (w:=w) n hn);clear hn;go_enter func45,ntmps45;go_wp2_with fail;refine (HP.out).mono ?_;rintro e w1 ⟨rfl,hw⟩;obtain rfl:w=w1:=hw.symm;go_wp2;go_ret;exact ⟨tT HF.out.symm,rfl⟩
 have HP:=bK (Oh (w:=w) n hn);by_cases hl:1024<l.length;·have HF:=bK (Zr hn hl);clear hn;go_enter func45,ntmps45;go_wp2_with fail;refine (HP.out).mono ?_;rintro e w1 ⟨rfl,hw⟩;obtain rfl:w=w1:=hw.symm;go_wp2;go_ret;exact ⟨tT HF.out.symm,rfl⟩
 have HI:=bK (fun hb=>Zt (w:=l) (n:=n) hn hl hb);have H0:=bK (fun hb=>Sb (w:=l) (n:=n) hn hl hb);have hz:Hid (∀y∈l.take 0,DW n y=false):=fun y hy=>by simp at hy
 clear hn;go_enter func45,ntmps45;go_wp2_with fail;refine (HP.out).mono ?_;rintro e w1 ⟨rfl,hw⟩;obtain rfl:w=w1:=hw.symm;go_wp2;go_loop [5] (fun i=>∃k:Nat,k<=l.length/\i= .int .i64 k/\Hid (∀y∈l.take k,DW n y=false)) (fun i=>l.length-(intOf i).toNat);case atStart=>exact ⟨0,ah,rfl,hz⟩
 case round=>
  clear hz;obtain ⟨k,hk,rfl,hz⟩:=hrel;by_cases hlt:k<l.length
  ·obtain ⟨b1,o1,x,rfl,hxc,hx, -⟩:=h.iC hlt;by_cases h0:x<0;·have HF:=bK (HI.out ⟨x,bV hx.out,.inl h0⟩);go_wp2;go_ret;exact ⟨tT HF.out.symm,rfl⟩
   by_cases h1:n<=x;·have HF:=bK (HI.out ⟨x,bV hx.out,.inr h1⟩);go_wp2;go_ret;exact ⟨tT HF.out.symm,rfl⟩
   have hz2:Hid (∀y∈l.take (k+1),DW n y=false):=Og hx.out (Zv ah) hz.out;go_wp2;go_round;case rel=>exact ⟨k+1,ah,by go_num,hz2⟩
   case measure=>exact bF
  have HF:=bK (H0.out (fun ⟨x,hx,hb⟩=>by
   have:=hz.out x (by rw [bY ah];exact hx)
   rw [Sc hb] at this;cases this))
  go_wp2;go_ret;exact ⟨tT HF.out.symm,rfl⟩
end
def Marks (n:Nat) (l:List Int) (b:List Bool):Prop:=b.length=n/\∀t,t<n->b[t]? =some (decide ((t:Int)∈l))
theorem Marks.at {n:Nat} {l:List Int} {b:List Bool} (h:Marks n l b) {t:Nat} (ht:t<n) {x:Bool} (hx:b[t]? =some x):x=decide ((t:Int)∈l):=by
 have:=h.2 t ht;rw [hx] at this;simpa using this
theorem Marks.push {n:Nat} {l:List Int} {b:List Bool} (h:Marks n l b) {t:Nat} (ht:t<n):Marks n (l++[(t:Int)]) (b.set t true):=by
 refine ⟨by rw [fB];exact h.1,fun s hs=> ?_⟩;by_cases e:s=t;·subst e;rw [fI (by rw [h.1];exact hs)];simp
 rw [dY ah,h.2 s hs];congr 1
 rw [arS,eG,dZ];exact ⟨.inl,fun h=>h.resolve_right ah⟩
theorem Marks.init {n:Nat} {b:List Bool} (h:b=List.replicate n false) {t:Nat} (ht:t<n):Marks n [(t:Int)] (b.set t true):=by
 subst h;refine ⟨aH,fun s hs=> ?_⟩;by_cases e:s=t;·subst e;rw [fI (iq hs)];simp
 rw [dY ah,ap3,bQ hs];congr 1
 rw [eq_comm,aqm,dZ];omega
section
variable {M:Nat->Prop} {w:World} {an ao:Option Addr} {cn co:Nat} {m:g_}
theorem JH (hm:Ma M w an cn ao co m):Calls prog 118 #[kF m an cn ao co] w fun e w'=> ∃a c l,e= .returned (.slice a l.length c)/\Hid (l=m.yg)/\Sl (fun k=>k<w.heap.size) w' a c l/\Below w.heap.size w w':=by
 have HV:=bK (jR (hm.ext (Ext.alloc M w (.cells #[.int .i64 m.gZ,.int .i64 m.start,.slice an m.h_.length cn,.slice ao m.out.length co] 24))));by_cases he:m.err=0
 ·have ok:=m.iG he;have OK:=bK ok;have he':(m.err !=0)=false:=by simp [he]
  have n1:=ok.n1;have s0:=ok.s0;have s1:=ok.s1;have HE:=bK he;clear he ok;go_enter func118,ntmps118;go_wp2_with (first|(go_at_call 33;refine (HV.out).mono ?_;rintro e w1 ⟨rfl,hb1⟩;have tV:∀o,w1.cell? ⟨w.heap.size,o,none⟩=_:=fun o=>hb1.cell aH)|(at_make;refine Dc (B:=w.heap.size+1) (n:=m.h_.length) rfl rfl underlying205 BU rfl ah ?_ ?_));·have:=hb1.size;simpa using this
  intro g c b w2 hb hO hb2 hg;have Wx:w.heap.size+1<=w1.heap.size:=iq hb1.size;have hB2:Below (w.heap.size+1) (w.alloc (.cells #[.int .i64 m.gZ,.int .i64 m.start,.slice an m.h_.length cn,.slice ao m.out.length co] 24)) w2:=(hb1.mono aH).trans (hb2.mono Wx);have hbl:Hid (b.length=m.h_.length):=bK (by rw [hb.out,fC]);clear tV hb1 hb2;have Oi:∀o,w2.cell? ⟨w.heap.size,o,none⟩=_:=fun o=>hB2.cell aH;have hsb:m.start.toNat<b.length:=ig hbl.out;have aoE:m.start<b.length:=ah;obtain ⟨g',x0,hg',hxc,hxf, -⟩:=hO.Er hsb;obtain rfl:g=g':=iq hg';have afA:=(hO.lt g rfl).2;have dgw:¬w.heap.size=g:=ah;have hst:∀(j o:Nat) (u:Value),(w2.setCell ⟨g,j,none⟩ u).cell? ⟨w.heap.size,o,none⟩=w2.cell? ⟨w.heap.size,o,none⟩:=fun j o u=>dD (w:=w2) (dM _ _ _ _ aJ);go_wp2;have hO3:=(hO.Au rfl (show w.heap.size+1<=g by omega) true m.start.toNat).alloc (.cells #[.int .i64 m.start] 3);have Oj:Ow (g+1) (fun k=>g+1<=k) ((w2.setCell ⟨g,m.start.toNat,none⟩ (.bool true)).alloc (.cells #[.int .i64 m.start] 3)) 3 (.slice (some ⟨w2.heap.size,0,none⟩) 1 1) [m.start]:=by have:=Ow.one (B:=g+1) (M:=fun k=>g+1<=k) (w:=w2.setCell ⟨g,m.start.toNat,none⟩ (.bool true)) (T:=3) hm.start (by have:=afA;simp;omega);simpa using this
  have hB3:Below (w.heap.size+1) (w.alloc (.cells #[.int .i64 m.gZ,.int .i64 m.start,.slice an m.h_.length cn,.slice ao m.out.length co] 24)) ((w2.setCell ⟨g,m.start.toNat,none⟩ (.bool true)).alloc (.cells #[.int .i64 m.start] 3)):=by refine fF (hB2.setCell aJ _) ?_ _;have:=hB2.size;simpa using this
  have wV:Hid (Marks m.h_.length (m.lq 0) (b.set m.start.toNat true)):=by have:=Marks.init hb.out (show m.start.toNat<m.h_.length by omega);rwa [Int.toNat_of_nonneg s0] at this
  clear hO hxc hxf hst hB2 Oi
  go_loopw [4,5] (fun v i wr=>∃(k:Nat) (a':Option Addr) (c':Nat) (l:List Int) (bs:List Bool),k<=m.h_.length/\i= .int .i64 k/\v= .slice a' l.length c'/\Hid (l=m.lq k)/\Hid (Marks m.h_.length l bs)/\Hid (b.length=bs.length)/\
   Ow (w.heap.size+1) (fun k=>w.heap.size+1<=k) wr 4 (.slice (some ⟨g,0,none⟩) b.length c) bs/\Ow (g+1) (fun k=>g+1<=k) wr 3 (.slice a' l.length c') l/\Below (w.heap.size+1) (w.alloc (.cells #[.int .i64 m.gZ,.int .i64 m.start,.slice an m.h_.length cn,.slice ao m.out.length co] 24)) wr) (fun _ i _=>m.h_.length-(intOf i).toNat)
  case atStart=>exact ⟨0,_,_,[m.start],_,ah,rfl,rfl,rfl,wV,bK (by rw [fB]),hO3,Oj,hB3⟩
  case round=>
   clear hO3 Oj hB3 wV;obtain ⟨k,a',c',l,bs,hk,rfl,rfl,hl,hM,hbs,hO,hN,hB⟩:=hrel;obtain ⟨wo,rfl⟩:=iA wr;have hbx:∀o,wo.cell? ⟨w.heap.size,o,none⟩=_:=fun o=>hB.cell aH;have hsz:w.heap.size+1<=wo.heap.size:=iq hB.size;have Az:w.heap.size<wo.heap.size:=ah;have hBw:Below w.heap.size w wo:=((bP _ _).alloc (bM _) _).trans (hB.mono ah);have hll:l.length<=m.h_.length:=by rw [hl.out];exact g_.og OK.out k
   by_cases hlt:k<l.length
   ·obtain ⟨gn,x0,rfl,hxc, -,hx0, -⟩:=hN.iC hlt;have CY:=(g_.mD OK.out k).2.1 x0 (by rw [<-hl.out];exact bV hx0.out);obtain ⟨x,rfl⟩:=b_ CY.1;have hxn:x<m.h_.length:=ah;obtain ⟨bn,on,a1,r1,c1,rfl,hn1,hr1,hS1⟩:=hm.h_.iD hxn;have Wy:bn<w.heap.size:=hm.h_.lt hxn;replace hn1:=(hBw.cell (p:=⟨bn,on+x,none⟩) Wy).trans hn1;have Ls:=hS1.le;go_wp2;refine go_quiet fun nq=> ?_;go_wp2
    go_loopw [4,37] (fun v i w4=>∃(j:Nat) (a2:Option Addr) (c2:Nat) (l2:List Int) (Rs:List Bool),j<=r1.length/\i= .int .i64 j/\v= .slice a2 l2.length c2/\Hid (l2=visit l (r1.take j))/\Hid (Marks m.h_.length l2 Rs)/\Hid (b.length=Rs.length)/\
     Ow (w.heap.size+1) (fun k=>w.heap.size+1<=k) w4 4 (.slice (some ⟨g,0,none⟩) b.length c) Rs/\Ow (g+1) (fun k=>g+1<=k) w4 3 (.slice a2 l2.length c2) l2/\Below (w.heap.size+1) (w.alloc (.cells #[.int .i64 m.gZ,.int .i64 m.start,.slice (some ⟨bn,on,none⟩) m.h_.length cn,.slice ao m.out.length co] 24)) w4) (fun _ i _=>r1.length-(intOf i).toNat)
    case atStart=>exact ⟨0,_,_,l,bs,ah,rfl,rfl,rfl,hM,hbs,hO.drewN _,hN.drewN _,iF hB _⟩
    case round=>
     clear hO hN hM hbs hxc hn1 hbx hB hBw hsz Az;obtain ⟨j,a2,c2,l2,Rs,hj,rfl,rfl,hl2,hM,hbs,hO,hN,hB⟩:=hrel;obtain ⟨w4,rfl⟩:=iA wr;have hBw:Below w.heap.size w w4:=((bP _ _).alloc (bM _) _).trans (hB.mono ah);have ku:=hS1.below hBw;have afA:=(hO.lt g rfl).2;by_cases hlj:j<r1.length
     ·obtain ⟨b3,o3,t0,rfl,htc,ht0, -⟩:=ku.iC hlj;have htr:=g_.kN OK.out hxn (x:=t0) (by rw [iw hr1.out];exact bV ht0.out);obtain ⟨t,rfl⟩:=b_ htr.1;have htn:t<m.h_.length:=ah;have htb:t<b.length:=ig hbl.out;have afB:t<Rs.length:=ig hbs.out;obtain ⟨g',y,hg',Ca,hyf,hy⟩:=hO.NT hbs.out afB;obtain rfl:g=g':=iq hg';have hyd:Hid (y=decide ((t:Int)∈l2)):=hM.out.at htn hy.out;have htk:Hid (r1.take (j+1)=r1.take j++[(t:Int)]):=bK (by rw [dh,ht0.out];rfl);have aoF:l2.length<=m.h_.length:=by
       have h1:=g_.mD OK.out k;refine qD _ _ (by rw [hl2.out,hl.out];exact qC _ _ h1.1) (fun z hz=> ?_);rw [hl2.out,hl.out,um] at hz;rcases hz with hz|hz;·exact h1.2.1 z hz
       exact g_.kN OK.out hxn (by rw [iw hr1.out];exact aqe hz)
      cases y with
      |true=>
       have hin:Hid (visit l (r1.take (j+1))=l2):=by have:(t:Int)∈l2:=iq hyd.out.symm;unfold Hid;rw [htk.out,zx,<-hl2.out,bQ this]
       go_wp2;go_roundw;case rel=>exact ⟨j+1,_,_,l2,Rs,ah,by go_num,rfl,hin.out.symm,hM,hbs,hO,hN,hB⟩
       case measure=>exact bF
      |false=>
       have Wz:Hid (visit l (r1.take (j+1))=l2++[(t:Int)]):=by have:¬(t:Int)∈l2:=iq hyd.out.symm;unfold Hid;rw [htk.out,zx,<-hl2.out,bO this]
       have kV:=hO.Au hbs.out (show w.heap.size+1<=g by omega) true t;have IE:Ow (g+1) (fun k=>g+1<=k) (w4.setCell ⟨g,t,none⟩ (.bool true)) 3 (.slice a2 l2.length c2) l2:=hN.ny (fun k hk=>by have:=(hN.lt k hk).1;simp;omega) _;have jw:=hB.setCell (p:=⟨g,t,none⟩) (show w.heap.size+1<=g by omega) (.bool true);have hs5:=hB.size;have hti:Hid (i64 (t:Int)):=zB ah;clear hO hN hB;go_wp2_with (at_builtin;refine iQ rfl rfl underlying49 iE rfl rfl (IE.alloc _) bf hti.out ah aJ ?_);intro a6 c6 l6 w6 JI Ol hb6;have lu:=(kV.alloc (.cells #[.int .i64 (t:Int)] 3)).aey hb6 (fun k hk=>by simp [Value.ownBlock] at hk;omega);have jo:=(jw.alloc (iq hs5) (.cells #[.int .i64 (t:Int)] 3)).trans (hb6.mono ah);clear hb6 kV IE jw;go_wp2;go_roundw;case rel=>exact ⟨j+1,a6,c6,l6,Rs.set t true,ah,by go_num,rfl,bK (by rw [JI.out,Wz.out]),bK (by rw [JI.out];exact hM.out.push htn),bK (by rw [fB];exact hbs.out),lu,Ol,jo⟩
       case measure=>exact bF
     have kE:Hid (l2=m.lq (k+1)):=by unfold Hid;have aib:=hx0.out;rw [hl.out] at aib;rw [g_.uo,bQ (by rw [<-hl.out];exact hlt),iw aib,dK,iw hr1.out,hl2.out,bY ah,hl.out]
     go_wp2;go_roundw;case rel=>exact ⟨k+1,a2,c2,l2,Rs,ah,by go_num,rfl,kE,hM,hbs,hO,hN,hB⟩
     case measure=>exact bF
   have hst:Hid (l=m.yg):=by unfold Hid g_.yg;rw [bQ HE.out,g_.IW (i:=k) (by rw [<-hl.out];exact hlt) hk,<-hl.out]
   go_wp2;go_ret;exact ⟨a',c',l,rfl,hst,hN.fresh ah,hBw⟩
 have he':(m.err !=0)=true:=by simp [he]
 have HE:=bK he;clear he;go_enter func118,ntmps118;go_wp2_with (go_at_call 33;refine (HV.out).mono ?_;rintro e w1 ⟨rfl,hb1⟩);go_ret;exact ⟨none,0,[],rfl,by unfold Hid g_.yg;rw [bO HE.out],Sl.nil _ _ _ aS,((bP _ _).alloc (bM _) _).trans (hb1.mono aH)⟩
end
section
variable {M M':Nat->Prop} {w:World} {an ao ac:Option Addr} {cn co cc:Nat} {m:g_} {cls:List Int}
theorem WA (hm:Ma M w an cn ao co m) (hc:Sl M' w ac cc cls) (ok:m.Ok) (hl:cls.length=m.h_.length):Calls prog 247 #[kF m an cn ao co,.slice ac cls.length cc] w fun e w'=> ∃a c l,e= .returned (.slice a l.length c)/\Hid (l=(canon (m.lH cls) cls.length).1)/\Sl (fun k=>k<w.heap.size) w' a c l/\Below w.heap.size w w':=by
 have OK:=bK ok;have HL:=bK hl;have i0:=ok.i0;have i1:=ok.i1;have n1:=ok.n1;clear ok hl;go_enter func247,ntmps247;go_wp2
 go_loopw [5,6,7] (fun o ct i wr=>∃(k:Nat) (a':Option Addr) (c':Nat) (l:List Int) (q:Int),k<=cls.length/\i= .int .i64 k/\o= .slice a' l.length c'/\ct= .int .i64 q/\0<=q/\q<=k/\
     Hid (canon (m.lH cls) k=(l,q))/\Ow (w.heap.size+1) (fun k=>w.heap.size+1<=k) wr 3 (.slice a' l.length c') l/\
     Below (w.heap.size+1) (w.alloc (.cells #[.int .i64 m.gZ,.int .i64 m.start,.slice an m.h_.length cn,.slice ao m.out.length co] 24)) wr) (fun _ _ i _=>cls.length-(intOf i).toNat)
 case atStart=>exact ⟨0,none,0,[],0,ah,rfl,rfl,rfl,ah,ah,rfl,Ow.nil,bP _ _⟩
 case round=>
  obtain ⟨k,a',c',l,q,hk,rfl,rfl,rfl,q0,q1,hE,hO,hB⟩:=hrel;obtain ⟨wo,rfl⟩:=iA wr;have hbx:∀o,wo.cell? ⟨w.heap.size,o,none⟩=_:=fun o=>hB.cell aH;have hsz:w.heap.size+1<=wo.heap.size:=iq hB.size;by_cases hlt:k<cls.length
  ·have hkn:k<m.h_.length:=by have:=HL.out;omega
   have hmr:Ma M wo an cn ao co m:=hm.ext ((Ext.alloc M w _).trans (Ext.of_below (iq hB)));have hcr:Sl M' wo ac cc cls:=hc.ext ((Ext.alloc M' w _).trans (Ext.of_below (iq hB)));have HMR:=bK hmr;have HCR:=bK hcr;clear hmr hcr;have hcl:=hc.le;have iX:Hid (l.length=k):=by have:=jy (m.lH cls) k;rw [hE.out] at this;exact this
   go_wp2;go_loopw [8,9] (fun f t w2=>∃d:Nat,d<=k/\((d<k/\∃tn:Nat,tn+d+1=k/\t= .int .i64 tn)\/(d=k/\t= .int .i64 (-1)))/\(∃z:Int,f= .int .i64 z/\ -1<=z/\z<128/\Hid (z=look (m.lH cls) l k d))/\Hid (∃n,w2=wo.drewN n)) (fun _ t _=>(intOf t+1).toNat);case atStart=>
    refine ⟨0,ah,?_,⟨_,rfl,ah,ah,rfl⟩,⟨0,rfl⟩⟩;by_cases e:k=0;·subst e;exact .inr ⟨rfl,rfl⟩
    exact .inl ⟨ah,k-1,ah,by rw [show ((k-1:Nat):Int)=(k:Int)-1 from by omega]⟩
   case round=>
    obtain ⟨d,hd,ht,⟨z,rfl,z0,z1,hz⟩,hW⟩:=hrel;obtain ⟨w2,rfl⟩:=iA wr;rcases ht with ⟨hdk,tn,htn,rfl⟩|⟨hdk,rfl⟩
    ·have hm2:Ma M w2 an cn ao co m:=by obtain ⟨n,e⟩:=hW.out;rw [e];exact (HMR.out).ext (Ext.of_below (below_drewN _ _ _))
     have hc2:Sl M' w2 ac cc cls:=Da hW HCR.out;have hO2:Ow (w.heap.size+1) (fun k=>w.heap.size+1<=k) w2 3 (.slice a' l.length c') l:=by obtain ⟨n,e⟩:=hW.out;rw [e];exact hO.drewN n
     have Oi:∀o,w2.cell? ⟨w.heap.size,o,none⟩=wo.cell? ⟨w.heap.size,o,none⟩:=by obtain ⟨n,e⟩:=hW.out;rw [e];exact fun _=>rfl
     have htk:tn<k:=ah;have htc:tn<cls.length:=ah;have hko:k<m.out.length:=ig OK.out.lo;have hto:tn<m.out.length:=ig OK.out.lo;have aoG:tn<m.h_.length:=ah;have htl:tn<l.length:=ig iX.out;obtain ⟨bc,oc,xs,rfl,hcs,hxs, -⟩:=hc2.iC hlt;obtain ⟨bc',oc',xt,hac,hct,hxt, -⟩:=hc2.iC htc;obtain ⟨rfl,rfl⟩:bc=bc'/\oc=oc':=iq hac;clear hac;have HW:=hW;clear hW hm;obtain ⟨bn,on,as1,rs1,cs1,bo,oo,as2,rs2,cs2,rfl,rfl,hn1,ho1,hS1,hS2,hr1,hr2,hl1,hl2,hl3⟩:=hm2.row OK.out hkn;obtain ⟨bn',on',at1,rt1,ct1,bo',Zi,at2,rt2,ct2,hbn,NY,hn2,ho2,hT1,Om,hq1,hq2,hm1,hm3,hm4⟩:=hm2.row OK.out (show tn<m.h_.length by omega);obtain ⟨rfl,rfl⟩:bn=bn'/\on=on':=iq hbn;obtain ⟨rfl,rfl⟩:bo=bo'/\oo=Zi:=iq NY;clear hbn NY;go_wp2;refine go_quiet fun nq=> ?_;go_wp2;have hcm:Hid (m.qg cls tn k 0↔xs=xt):=by unfold Hid g_.qg;rw [iw hxs.out,iw hxt.out];exact ⟨fun h=>h.1,fun h=>⟨h,fun a ha=>by omega⟩⟩
     go_loopw [10,11] (fun b i w3=>∃(a:Nat) (e:Bool),a<=m.gZ.toNat/\i= .int .i64 a/\b= .bool e/\Hid (e=decide (m.qg cls tn k a))/\Hid (∃n,w3=w2.drewN n)) (fun _ i _=>m.gZ.toNat-(intOf i).toNat);case atStart=>exact ⟨0,_,ah,rfl,rfl,bK (by rw [decide_eq_decide.2 hcm.out];rfl),⟨_,rfl⟩⟩
     case round=>
      obtain ⟨a,e,ha,rfl,rfl,hS,hW3⟩:=hrel;obtain ⟨w3,rfl⟩:=iA wr;have alK:∀o,w3.cell? ⟨w.heap.size,o,none⟩=wo.cell? ⟨w.heap.size,o,none⟩:=by obtain ⟨n,e⟩:=hW3.out;rw [e];exact fun o=>(World.cell?_drewN _ _ _).trans (Oi o)
      by_cases oD:a<m.gZ.toNat/\e=true
      ·obtain ⟨hai,rfl⟩:=oD;have acU:(a:Int)<m.gZ:=ah;have kC:Sl M w3 as1 cs1 rs1:=Da hW3 hS1;have ku:Sl M w3 as2 cs2 rs2:=Da hW3 hS2;have hT3:Sl M w3 at1 ct1 rt1:=Da hW3 hT1;have hT4:Sl M w3 at2 ct2 rt2:=Da hW3 Om;have hc3:Sl M' w3 (some ⟨bc,oc,none⟩) cc cls:=Da hW3 hc2;have WB:w3.cell? ⟨bn,on+k,none⟩=some (.slice as1 rs1.length cs1):=by obtain ⟨n,e⟩:=hW3.out;rw [e];exact hn1
       have aoH:w3.cell? ⟨bo,oo+k,none⟩=some (.slice as2 rs2.length cs2):=by obtain ⟨n,e⟩:=hW3.out;rw [e];exact ho1
       have aoI:w3.cell? ⟨bn,on+tn,none⟩=some (.slice at1 rt1.length ct1):=by obtain ⟨n,e⟩:=hW3.out;rw [e];exact hn2
       have aoJ:w3.cell? ⟨bo,oo+tn,none⟩=some (.slice at2 rt2.length ct2):=by obtain ⟨n,e⟩:=hW3.out;rw [e];exact ho2
       obtain ⟨b1,o1,x1,b2,o2,y1,rfl,rfl,he1,he2,hx1,y10,y11,hv1,hv2,la1,la2⟩:=Ma.entry OK.out hkn kC ku hr1 hr2 hl3 hai;obtain ⟨b3,o3,x2,b4,o4,y2,rfl,rfl,Oo,he4,hx2,y20,y21,hv3,hv4,la3,la4⟩:=Ma.entry OK.out (show tn<m.h_.length by omega) hT3 hT4 hq1 hq2 hm4 hai;have acV:x1<cls.length:=ig HL.out;have alL:x2<cls.length:=ig HL.out;obtain ⟨bq,oq,z1,hbq,hz1,acW, -⟩:=hc3.iC acV;obtain ⟨bq2,oq2,z2,aic,hz2,afC, -⟩:=hc3.iC alL;obtain ⟨rfl,rfl⟩:bc=bq/\oc=oq:=iq hbq;obtain ⟨rfl,rfl⟩:bc=bq2/\oc=oq2:=iq aic;clear hbq aic;have UK:Hid (m.qg cls tn k (a+1)↔(y1=y2/\z1=z2)):=by
        unfold Hid;have h1:(m.ot k a=m.ot tn a/\cls.getD (m.nx k a).toNat 0=cls.getD (m.nx tn a).toNat 0)↔(y1=y2/\z1=z2):=by rw [hv1.out,hv2.out,hv3.out,hv4.out,dK,dK,iw acW.out,iw afC.out]
        have h0:m.qg cls tn k a:=iq hS.out.symm;rw [<-h1];exact ⟨fun h=>h.2 a ah,fun h=>g_.Np m h0 h.1 h.2⟩
       clear hn1 ho1 hn2 ho2 hS1 hS2 hT1 Om kC ku hT3 hT4;go_wp2;refine kT aB aB ?_;by_cases hy:y1=y2
       ·have hy':(y1==y2)=true:=by simp [hy]
        have HY:=bK hy;clear hy;repeat (first|go_big_quiet_step (fail)|quiet_step (fail))
        refine aqD ?_;intro _ hw';obtain ⟨nq,wZ⟩:=hw';subst wZ;go_wp2;go_roundw;case rel=>exact ⟨a+1,_,ah,by go_num,rfl,bK (by have h0:decide (m.qg cls tn k (a+1))=decide (y1=y2/\z1=z2):=decide_eq_decide.2 UK.out;rw [h0];have:=HY.out;simp [this];try rfl),Ll hW3 _⟩
        case measure=>exact bF
       have hy':(y1==y2)=false:=by simp [hy]
       have HY:=bK hy;clear hy;repeat (first|go_big_quiet_step (fail)|quiet_step (fail))
       refine aqD ?_;intro _ hw';obtain ⟨nq,wZ⟩:=hw';subst wZ;go_wp2;go_roundw;case rel=>exact ⟨a+1,_,ah,by go_num,rfl,bK (by have h0:decide (m.qg cls tn k (a+1))=decide (y1=y2/\z1=z2):=decide_eq_decide.2 UK.out;rw [h0];have:=HY.out;simp [this]),Ll hW3 _⟩
       case measure=>exact bF
      have Lu:Hid (e=m.lH cls tn k):=by
       unfold Hid;by_cases he:e=true
       ·have:a=m.gZ.toNat:=by have h1:¬a<m.gZ.toNat:=fun h=>oD ⟨h,he⟩;omega
        rw [hS.out,this];rfl
       have he':e=false:=iq he;have h2:=hS.out;rw [he'] at h2;rw [he',g_.Nl m ha (iq h2.symm)]
      have hO3:Ow (w.heap.size+1) (fun k=>w.heap.size+1<=k) w3 3 (.slice a' l.length c') l:=by obtain ⟨n,e⟩:=hW3.out;rw [e];exact hO2.drewN n
      obtain ⟨go_,zf,rfl,hzf, -,aie, -⟩:=hO3.iC htl;have hzr:Hid (0<=zf/\zf<128):=by have h1:=(kr (m.lH cls) k).2.2 tn htk;rw [hE.out] at h1;simp only at h1;rw [iw aie.out] at h1;unfold Hid;omega
      have hlk:Hid (look (m.lH cls) l k (d+1)=if e then zf else z):=by unfold Hid;have h1:k-(d+1)=tn:=ah;rw [look,h1,<-Lu.out,iw aie.out,hz.out]
      have UU:Hid (∃n,w3=wo.drewN n):=by obtain ⟨n,e⟩:=hW3.out;obtain ⟨n',e'⟩:=HW.out;exact ⟨n'+n,by rw [e,e',ap4]⟩
      cases e with
      |true=>
       have acU:¬a<m.gZ.toNat:=fun h=>oD ⟨h,rfl⟩;have aox:¬(a:Int)<m.gZ:=ah;clear oD acU;go_wp2;go_roundw;case rel=>
        refine ⟨d+1,ah,?_,⟨_,rfl,ig hzr.out,ig hzr.out,bK (iq hlk.out.symm)⟩,UU⟩;by_cases e:tn=0;·exact .inr ⟨ah,by subst e;rfl⟩
        exact .inl ⟨ah,tn-1,ah,by rw [show ((tn-1:Nat):Int)=(tn:Int)-1 from by omega]⟩
       case measure=>simp [intOf]
      |false=>
       clear oD;go_wp2
       all_goals
        go_roundw
        case rel=>
         refine ⟨d+1,ah,?_,⟨_,rfl,z0,z1,bK (iq hlk.out.symm)⟩,UU⟩
         by_cases e:tn=0
         ·exact .inr ⟨ah,by subst e;rfl⟩
         exact .inl ⟨ah,tn-1,ah,by rw [show ((tn-1:Nat):Int)=(tn:Int)-1 from by omega]⟩
        case measure=>simp [intOf]
    have UU:=hW;have hO2:Ow (w.heap.size+1) (fun k=>w.heap.size+1<=k) w2 3 (.slice a' l.length c') l:=by obtain ⟨n,e⟩:=hW.out;rw [e];exact hO.drewN n
    have hB2:Below (w.heap.size+1) (w.alloc (.cells #[.int .i64 m.gZ,.int .i64 m.start,.slice an m.h_.length cn,.slice ao m.out.length co] 24)) w2:=by obtain ⟨n,e⟩:=hW.out;rw [e];exact iF hB n
    have Az:w.heap.size+1<=w2.heap.size:=iq hB2.size;have hz2:Hid (z=look (m.lH cls) l k k):=by have:=hz.out;rw [hdk] at this;exact this
    have HDK:=bK hdk;have hll:l.length<=128:=ig iX.out;have h1l:(canon (m.lH cls) k).1=l:=by rw [hE.out]
    have h2l:(canon (m.lH cls) k).2=q:=by rw [hE.out]
    have H1L:=bK h1l;have H2L:=bK h2l;clear hdk h1l h2l;by_cases hz0:z<0
    ·have lU:Hid (canon (m.lH cls) (k+1)=(l++[q],q+1)):=by
      have h3:look (m.lH cls) (canon (m.lH cls) k).1 k k<0:=by rw [H1L.out,<-hz2.out];exact hz0
      unfold Hid;rw [yh _ h3,H1L.out,H2L.out]
     have hv:i64 q:=bg;have HV:=bK hv;clear hv;go_wp2_with (at_builtin;refine iQ rfl rfl underlying49 iE rfl rfl (hO2.alloc _) bf HV.out ah aJ ?_);intro a2 c2 l2 w4 hl2 hO4 hgr;have hB4:=(hB2.alloc (iq Az) _).trans hgr;clear hgr;go_wp2;go_roundw;case rel=>exact ⟨k+1,a2,c2,l2,q+1,ah,by go_num,rfl,rfl,ah,ah,bK (by rw [lU.out,hl2.out]),hO4,hB4⟩
     case measure=>exact bF
    have pq:Hid (canon (m.lH cls) (k+1)=(l++[z],q)):=by
     have h3:¬look (m.lH cls) (canon (m.lH cls) k).1 k k<0:=by rw [H1L.out,<-hz2.out];exact hz0
     unfold Hid;rw [yj _ h3,H1L.out,H2L.out,<-hz2.out]
    have hv:i64 z:=bg;have HV:=bK hv;clear hv;go_wp2_with (at_builtin;refine iQ rfl rfl underlying49 iE rfl rfl (hO2.alloc _) bf HV.out ah aJ ?_);intro a2 c2 l2 w4 hl2 hO4 hgr;have hB4:=(hB2.alloc (iq Az) _).trans hgr;clear hgr;go_wp2;go_roundw;case rel=>exact ⟨k+1,a2,c2,l2,q,ah,by go_num,rfl,rfl,ah,ah,bK (by rw [pq.out,hl2.out]),hO4,hB4⟩
    case measure=>exact bF
  have hke:Hid (k=cls.length):=bK ah;go_wp2;go_ret;exact ⟨a',c',l,rfl,bK (by rw [<-hke.out,hE.out]),hO.fresh ah,((bP _ _).alloc (bM _) _).trans (hB.mono ah)⟩
end
theorem Fx {x:Value} {a b:Int} (h:a=b):Ending.returned (.tuple #[x,.int .i64 a])= .returned (.tuple #[x,.int .i64 b]):=by rw [h]
section
variable {M:Nat->Prop} {w:World} {an ao ac:Option Addr} {cn co cc:Nat} {m:g_}
theorem WC (hm:Ma M w an cn ao co m) (k:Int) (hk0:i64 k):Calls prog 229 #[kF m an cn ao co,.int .i64 k] w fun e w'=> ∃a c l,e= .returned (.tuple #[.slice a l.length c,.int .i64 m.err])/\Hid (l=m.partOf k)/\Sl (fun k=>k<w.heap.size) w' a c l/\Below w.heap.size w w':=by
 have HK:=bK hk0;have hv:=oz (hm.ext (Ext.alloc M w (.cells #[.int .i64 m.gZ,.int .i64 m.start,.slice an m.h_.length cn,.slice ao m.out.length co] 24)));have HV:=bK hv;clear hv hk0;by_cases he:m.err=0
 ·have OK:=bK (m.iG he);have he':(m.err !=0)=false:=by simp [he]
  have n1:=OK.out.n1;have HE:=bK he;clear he;go_enter func229,ntmps229;go_wp2_with (first|(go_at_call 10;refine (HV.out).mono ?_;rintro e w1 ⟨rfl,hb1⟩;have tV:∀o,w1.cell? ⟨w.heap.size,o,none⟩=_:=fun o=>hb1.cell aH)|(at_make;refine jX (B:=w.heap.size+1) (n:=m.h_.length) rfl rfl underlying49 iE rfl ah ?_ ?_));·have:=hb1.size;simpa using this
  intro g c l w2 hl hO hb2 _;have Wx:w.heap.size+1<=w1.heap.size:=iq hb1.size;have hB2:Below (w.heap.size+1) (w.alloc (.cells #[.int .i64 m.gZ,.int .i64 m.start,.slice an m.h_.length cn,.slice ao m.out.length co] 24)) w2:=(hb1.mono aH).trans (hb2.mono Wx);have hS:=hO.fresh (n:=w.heap.size) ah;clear hO tV hb1 hb2;have hl0:Hid (l=m.part 0):=hl;clear hl;go_wp2
  go_loopw [7,8] (fun v i wr=>∃(j:Nat) (a':Option Addr) (c':Nat) (l:List Int),j<=m.h_.length/\(j<=k.toNat)/\i= .int .i64 j/\v= .slice a' l.length c'/\Hid (l=m.part j)/\Sl (fun k=>k<w.heap.size) wr a' c' l/\
   Below (w.heap.size+1) (w.alloc (.cells #[.int .i64 m.gZ,.int .i64 m.start,.slice an m.h_.length cn,.slice ao m.out.length co] 24)) wr) (fun _ i _=>m.h_.length-(intOf i).toNat)
  case atStart=>exact ⟨0,_,_,_,ah,ah,rfl,rfl,hl0,hS,hB2⟩
  case round=>
   obtain ⟨j,a',c',l,hj,hjk,rfl,rfl,hl,hS,hB⟩:=hrel;obtain ⟨wo,rfl⟩:=iA wr;have hbx:∀o,wo.cell? ⟨w.heap.size,o,none⟩=_:=fun o=>hB.cell aH;have hsz:w.heap.size+1<=wo.heap.size:=iq hB.size;have hB3:Below w.heap.size w wo:=((bP _ _).alloc (bM _) _).trans (hB.mono ah);by_cases oD:(j:Int)<k/\j<m.h_.length
   ·obtain ⟨h1,h2⟩:=oD;have hll:l.length=m.h_.length:=by rw [hl.out,m.qF]
    have HF:=bK (WA (hm.below hB3) hS OK.out hll);have Oq:=bK hll;clear hll;go_wp2_with (go_at_call 247;refine (HF.out).mono ?_;rintro e w4 ⟨a4,c4,l4,rfl,hl4,ku,hb4⟩);have alM:Hid (l4=m.part (j+1)):=bK (by rw [hl4.out,m.rU,Oq.out,hl.out]);clear hl4;go_roundw;case rel=>exact ⟨j+1,a4,c4,l4,ah,ah,by go_num,rfl,alM,ku.anti (fun q _ hq=>by omega),hB.trans (hb4.mono hsz)⟩
    case measure=>exact bF
   have Lu:Hid (l=m.partOf k):=by
    unfold Hid g_.partOf;rw [bQ HE.out,hl.out];congr 1
    omega
   by_cases h1:(j:Int)<k;·have h2:¬j<m.h_.length:=fun h=>oD ⟨h1,h⟩;clear oD;go_wp2;go_ret2;exact ⟨a',c',l,Fx HE.out.symm,Lu,hS,hB3⟩
   clear oD;go_wp2;go_ret2;exact ⟨a',c',l,Fx HE.out.symm,Lu,hS,hB3⟩
 have he':(m.err !=0)=true:=by simp [he]
 have HE:=bK he;clear he;go_enter func229,ntmps229;go_wp2_with (go_at_call 10;refine (HV.out).mono ?_;rintro e w1 ⟨rfl,hb1⟩);go_ret2;exact ⟨none,0,[],rfl,by unfold Hid g_.partOf;rw [bO HE.out],Sl.nil _ _ _ aS,((bP _ _).alloc (bM _) _).trans (hb1.mono aH)⟩
theorem Lv (hm:Ma M w an cn ao co m):Calls prog 187 #[kF m an cn ao co] w fun e w'=> ∃a c l,e= .returned (.tuple #[.slice a l.length c,.int .i64 m.err])/\Hid (l=m.partOf m.h_.length)/\Sl (fun k=>k<w.heap.size) w' a c l/\Below w.heap.size w w':=by
 have HP:=bK (WC (hm.ext (Ext.alloc M w (.cells #[.int .i64 m.gZ,.int .i64 m.start,.slice an m.h_.length cn,.slice ao m.out.length co] 24))) m.h_.length (zB hm.h_.le));go_enter func187,ntmps187;go_wp2_with (go_at_call 229;refine (HP.out).mono ?_;rintro e w1 ⟨a,c,l,rfl,hl,hs,hb⟩);go_ret2;exact ⟨a,c,l,rfl,hl,hs.anti (fun q _ hq=>by simp;omega),((bP _ _).alloc (bM _) _).trans (hb.mono aH)⟩
end
end
section
open Tryz
theorem Ot (x y:Int):tQ y x= -tQ x y:=by
 unfold tQ;split<;>split<;>(try split)<;>omega
theorem qJ {x y:Int} (h:tQ x y=0):x=y:=by
 unfold tQ at h;split at h;·simp at h
 split at h;·simp at h
 omega
theorem Fy:∀(a b:List Int),jc b a= -jc a b
 |[],[]=>rfl
 |[],_::_=>rfl
 |_::_,[]=>rfl
 |x::a,y::b=>by
  simp only [jc]
  by_cases h:x=y
  ·rw [bQ h,bQ h.symm];exact Fy a b
  rw [bO h,bO (arl h)];exact Ot x y
theorem AA (a:List Int):jc a a=0:=by
 induction a with
 |nil=>rfl
 |cons x a ih=>simp [jc,ih]
theorem AB:∀{a b:List Int},jc a b=0->a=b
 |[],[],_=>rfl
 |[],_::_,h=>by simp [jc] at h
 |_::_,[],h=>by simp [jc] at h
 |x::a,y::b,h=>by
  simp only [jc] at h
  by_cases e:x=y
  ·rw [bQ e] at h;rw [e,AB h]
  rw [bO e] at h;exact absurd (qJ h) e
theorem yA {x y:Int}:tQ x y<0↔x<y:=by
 unfold tQ;split;·simp;omega
 split<;>simp<;>omega
theorem lex_trans:∀{a b c:List Int},jc a b<=0->jc b c<=0->jc a c<=0/\(jc a b<0->jc a c<0)
 |[],b,[],h,h2=>by
  cases b with
  |nil=>simp [jc]
  |cons y b=>simp [jc] at h2
 |[],b,z::c,h,h2=>by simp [jc]
 |x::a,[],c,h,h2=>by simp [jc] at h
 |x::a,y::b,[],h,h2=>by simp [jc] at h2
 |x::a,y::b,z::c,h,h2=>by
  simp only [jc] at h h2 ⊢
  by_cases e:x=y
  ·subst e
   rw [bQ rfl] at h ⊢
   by_cases e2:x=z
   ·rw [bQ e2] at h2 ⊢
    exact lex_trans h h2
   rw [bO e2] at h2 ⊢
   have hr:=uy x z
   have hz:tQ x z≠0:=fun h=>e2 (qJ h)
   exact ⟨h2,fun _=>by omega⟩
  rw [bO e] at h ⊢
  have hr:=uy x y
  have hz:tQ x y≠0:=fun h=>e (qJ h)
  have h3:x<y:=yA.1 ah
  have h4:x<z:=by
   by_cases e2:y=z
   ·omega
   rw [bO e2] at h2
   have hr:=uy y z
   have hz:tQ y z≠0:=fun h=>e2 (qJ h)
   have:=yA.1 (show tQ y z<0 by omega)
   omega
  rw [bO ah]
  have:=yA.2 h4
  exact ⟨ah,fun _=>this⟩
theorem Fz (a b:List Int):iM b a= -iM a b:=by
 unfold iM;by_cases h:a.length=b.length;·rw [bQ h,bQ h.symm,Fy]
 rw [bO h,bO (arl h),Ot]
theorem pK (a:List Int):iM a a=0:=by unfold iM;rw [bQ rfl,AA]
theorem uG {a b:List Int} (h:iM a b=0):a=b:=by
 unfold iM at h;split at h;·exact AB h
 rename_i hl;have:=qJ h;omega
theorem uH {a b:List Int} (h:a.length<b.length):iM a b= -1:=by unfold iM;rw [bO ah,zF ah]
theorem Cb {a b c:List Int} (h:iM a b<=0) (h2:iM b c<=0):iM a c<=0/\(iM a b<0->iM a c<0):=by
 have key:∀{a b:List Int},iM a b<=0->a.length<b.length\/(a.length=b.length/\jc a b<=0/\iM a b=jc a b):=by
  intro a b h;by_cases e:a.length=b.length
  ·right;have e2:iM a b=jc a b:=by unfold iM;rw [bQ e]
   exact ⟨e,ah,e2⟩
  left;unfold iM at h;rw [bO e] at h;have hr:=uy a.length b.length;have hz:tQ (a.length:Int) b.length≠0:=fun h=>e (ig (qJ h));have:=yA.1 (show tQ (a.length:Int) b.length<0 by omega);omega
 rcases key h with h1|⟨h1,h3,h4⟩
 ·have hl:a.length<c.length:=by rcases key h2 with h5|⟨h5,_,_⟩<;>omega
  rw [uH hl];simp
 rcases key h2 with h5|⟨h5,h6,h7⟩;·rw [uH ah];simp
 have e2:iM a c=jc a c:=by unfold iM;rw [bQ ah]
 rw [e2,h4];exact lex_trans h3 h6
theorem zJ:∀{a b:List Int},b<+:a->0<=jc a b
 |[],[],_=>by simp [jc]
 |[],y::b,h=>by simp at h
 |x::a,[],_=>by simp [jc]
 |x::a,y::b,h=>by
  rw [aqW] at h
  simp only [jc]
  rw [bQ h.1.symm]
  exact zJ h.2
end
section
open Tryz
open Go.RowKit
abbrev Ox {α:Type} [GR α] (n0 B:Nat) (w:World) (T:TypeId) (v:Value) (l:List α):Prop:=Ow B (fun k=>v.ownBlock=some k\/k<n0) w T v l
section
variable {α:Type} [GR α] {n0 B:Nat} {w w':World} {T:TypeId} {v:Value} {l:List α} {a:Option Addr} {c:Nat}
theorem Ox.nil:Ox n0 B w T (.slice none 0 0) ([]:List α):=Ow.nil
theorem Ox.jD (h:Ox n0 B w T (.slice a l.length c) l) (hB:n0<=B):Sl (fun k=>k<n0) w a c l:=
 (h.oF (M':=fun k=>k<n0) fun _ _ hm=> .inr hm).jD fun k hk=>by have:=(h.lt k hk).1;omega
theorem Ox.later (h:Ox n0 B w T v l) (hb:Below w.heap.size w w'):Ox n0 B w' T v l:=Ow.below h hb
end
section
variable {P:Program} {w:World} {o:Oper} {a:Act} {ops:Array Oper} {rest:List Oper} {Q:Exit->Act->World->Prop} {β:Type} [GR β]
theorem yB {K:Act->World->Prop} {rows:List (List β)} {r:List β} {s x:Operand} {t e:TypeId} {n0 B:Nat} {v:Value} {g c:Nat} {ar:Option Addr} {cr:Nat} (hop:o.op= .call {callee:= .builtin .append,args:= #[s,x],argTypes:= #[t,t]}) (ht:P.underlying t=some (.slice e)) (hi:(P.info? e).map (fun i=>(i.zero,i.size,i.bytes))=some (some (.slice none 0 0),1,24)) (hs:a.eval s=v) (hx:a.eval x= .slice (some ⟨g,0,none⟩) 1 c) (jk:Ox n0 B w e v rows) (lU:w.cell? ⟨g,0,none⟩=some (.slice ar r.length cr)) (hy:Sl (fun k=>v.ownBlock=some k\/k<n0) w ar cr r) (iX:rows.length<1000000000000) (hB:B<=w.heap.size) (h:∀(a':Option Addr) (c':Nat) (l':List (List β)) (w':World),Hid (l'=rows++[r])->Ox n0 B w' e (.slice a' l'.length c') l'->Hid (∀k,(Value.slice a' l'.length c').ownBlock=some k->v.ownBlock=some k\/k=w.heap.size)->w.grownBy w' v.ownBlock->K (a.put o.dst (.slice a' l'.length c')) w'):o.wp P a w K Q:=by
 refine sF s x t hop e (.slice none 0 0) 1 24 ht hi rfl (by decide) B _ v rows hs rfl jk (fun k hk=> .inl hk) ⟨g,0,none⟩ c [.slice ar r.length cr] r hx (nD hy) ?_ ?_ ah aS hB ?_
 ·intro j u hj;match j,hj with
  |0,hj=>simp at hj;subst hj;simpa [Addr.add] using lU
 ·intro u hu;simp at hu;subst hu;rfl
 intro a' c' l' w' h1 h2 h3 h4;refine h a' c' l' w' h1 (h2.oF fun k hk hm=> ?_) (fun k hk=>(h3.out k hk).1) h4;rcases hm with hm|hm
 ·rcases (h3.out k hm).1 with e|e;·exact .inl (.inl e)
  exact .inr e
 exact .inl (.inr hm)
theorem jd {rows:List (List β)} {r:List β} {s x:Operand} {t e:TypeId} {n0 B:Nat} {v:Value} {g c:Nat} {ar:Option Addr} {cr:Nat} (hg:o.guard=none) (hop:o.op= .call {callee:= .builtin .append,args:= #[s,x],argTypes:= #[t,t]})
    (ht:P.underlying t=some (.slice e)) (hi:(P.info? e).map (fun i=>(i.zero,i.size,i.bytes))=some (some (.slice none 0 0),1,24))
    (hs:a.eval s=v) (hx:a.eval x= .slice (some ⟨g,0,none⟩) 1 c) (jk:Ox n0 B w e v rows) (lU:w.cell? ⟨g,0,none⟩=some (.slice ar r.length cr)) (hy:Sl (fun k=>v.ownBlock=some k\/k<n0) w ar cr r)
    (iX:rows.length<1000000000000) (hB:B<=w.heap.size)
    (h:∀(a':Option Addr) (c':Nat) (l':List (List β)) (w':World),Hid (l'=rows++[r])->Ox n0 B w' e (.slice a' l'.length c') l'->Hid (∀k,(Value.slice a' l'.length c').ownBlock=some k->v.ownBlock=some k\/k=w.heap.size)->w.grownBy w' v.ownBlock->
     wpList P ops Q rest (a.put o.dst (.slice a' l'.length c')) w'):wpList P ops Q (o::rest) a w:=
 aqi hg fun _ hK=>yB hop ht hi hs hx jk lU hy iX hB fun a' c' l' w' h1 h2 h3 h4=>hK _ _ (h a' c' l' w' h1 h2 h3 h4)
end
structure Pc where
 s:Int
 word:List Int
 deriving DecidableEq
def jP (L:List Pc) (w r:List Int):Nat->List Pc
 |0=>L
 |a+1=>if r.getD a 0∈(jP L w r a).map Pc.s then jP L w r a else jP L w r a++[⟨r.getD a 0,w++[(a:Int)]⟩]
theorem vH {L:List Pc} {w r:List Int} {a:Nat} {t:Int} (h:r[a]? =some t) (hm:t∈(jP L w r a).map Pc.s):jP L w r (a+1)=jP L w r a:=by
 have e:r.getD a 0=t:=by rw [bS,h];rfl
 simp only [jP];rw [e,bQ hm]
theorem vI {L:List Pc} {w r:List Int} {a:Nat} {t:Int} (h:r[a]? =some t) (hm:¬t∈(jP L w r a).map Pc.s):jP L w r (a+1)=jP L w r a++[⟨t,w++[(a:Int)]⟩]:=by
 have e:r.getD a 0=t:=by rw [bS,h];rfl
 simp only [jP];rw [e,bO hm]
theorem tX (L:List Pc) (w r:List Int):∀a,∃s,jP L w r a=L++s
 |0=>⟨[],by simp [jP]⟩
 |a+1=>by
  obtain ⟨s,hs⟩:=tX L w r a
  simp only [jP]
  split
  ·exact ⟨s,hs⟩
  exact ⟨s++[⟨r.getD a 0,w++[(a:Int)]⟩],by rw [hs,eH]⟩
theorem qA (L:List Pc) (w r:List Int):∀a,a<=r.length->(jP L w r a).map Pc.s=visit (L.map Pc.s) (r.take a)
 |0,_=>by simp [jP,visit]
 |a+1,h=>by
  have ih:=qA L w r a ah
  have hg:r[a]? =some r[a]:=bN ah
  rw [dh,hg]
  simp only [aqd]
  rw [zx,<-ih]
  by_cases hm:r[a]∈(jP L w r a).map Pc.s
  ·rw [vH hg hm,bQ hm]
  rw [vI hg hm,bO hm];simp
theorem zK {P:Pc->Prop} {L:List Pc} {w r:List Int} (h0:∀q∈L,P q) (h1:∀(a:Nat) t,r[a]? =some t->P ⟨t,w++[(a:Int)]⟩):∀a,a<=r.length->∀q∈jP L w r a,P q
 |0,_=>h0
 |a+1,h=>by
  intro q hq
  have hg:r[a]? =some r[a]:=bN ah
  by_cases hm:r[a]∈(jP L w r a).map Pc.s
  ·rw [vH hg hm] at hq;exact zK h0 h1 a ah q hq
  rw [vI hg hm] at hq
  rcases eG.1 hq with hq|hq
  ·exact zK h0 h1 a ah q hq
  rw [dZ.1 hq];exact h1 a _ hg
namespace g_
variable (m:g_)
def wW:Nat->List Pc
 |0=>[⟨m.start,[]⟩]
 |i+1=>if i<(wW i).length then jP (wW i) ((wW i).getD i ⟨0,[]⟩).word (m.h_.getD ((wW i).getD i ⟨0,[]⟩).s.toNat []) (m.h_.getD ((wW i).getD i ⟨0,[]⟩).s.toNat []).length else wW i
def qm:List Pc:=m.wW m.h_.length
variable {m}
theorem vJ:∀i,(m.wW i).map Pc.s=m.lq i
 |0=>rfl
 |i+1=>by
  have ih:=vJ i
  have hl:(m.wW i).length=(m.lq i).length:=by rw [<-ih];simp
  rw [uo]
  simp only [wW]
  by_cases h:i<(m.wW i).length
  ·rw [bQ h,bQ ah,qA _ _ _ _ (bM _),dV,ih]
   have:((m.wW i).getD i ⟨0,[]⟩).s=(m.lq i).getD i 0:=by
    rw [<-ih,bS,bS,dP,bN h];rfl
   rw [this]
  rw [bO h,bO ah,ih]
theorem rE (i:Nat):(m.wW i).length=(m.lq i).length:=by rw [<-vJ i];simp
theorem Zy {i:Nat} (h:¬i<(m.wW i).length):∀j,i<=j->m.wW j=m.wW i:=by
 intro j hj;induction j with
 |zero=>obtain rfl:i=0:=ah;rfl
 |succ j ih=>
  by_cases e:i=j+1;·rw [e]
  have:=ih ah;simp only [wW];rw [this,bO ah]
theorem UW {i:Nat} (h:¬i<(m.wW i).length) (hi:i<=m.h_.length):m.qm=m.wW i:=Zy h _ hi
theorem rF (ok:m.Ok):∀i,∀q∈m.wW i,0<=q.s/\q.s<m.h_.length/\m.nQ q.word/\q.word.length<=i/\m.lD m.start q.word=q.s
 |0=>by
  intro q hq
  obtain rfl:q=⟨m.start,[]⟩:=by simpa [wW] using hq
  exact ⟨ok.s0,ok.s1,fun y hy=>by simp at hy,aH,rfl⟩
 |i+1=>by
  have ih:=rF ok i
  intro q hq
  simp only [wW] at hq
  by_cases h:i<(m.wW i).length
  ·rw [bQ h] at hq
   have hp:(m.wW i).getD i ⟨0,[]⟩∈m.wW i:=by
    rw [bS,bN h];exact dQ h
   obtain ⟨p0,p1,p2,p3,p4⟩:=ih _ hp
   generalize (m.wW i).getD i ⟨0,[]⟩=p at*
   have hrl:=ok.rn p.s.toNat ah
   refine zK (P:=fun q=>0<=q.s/\q.s<m.h_.length/\m.nQ q.word/\q.word.length<=i+1/\m.lD m.start q.word=q.s) (fun q hq=> ?_) (fun a t ht=> ?_) _ (bM _) q hq
   ·obtain ⟨h1,h2,h3,h4,h5⟩:=ih q hq
    exact ⟨h1,h2,h3,ah,h5⟩
   have hal:a<(m.h_.getD p.s.toNat []).length:=by
    by_cases e:a<(m.h_.getD p.s.toNat []).length
    ·exact e
    rw [bZ ah] at ht;simp at ht
   have hr:=kN ok (s:=p.s.toNat) ah (bV ht)
   refine ⟨hr.1,hr.2,fun y hy=> ?_,aJ,?_⟩
   ·rcases eG.1 hy with hy|hy
    ·exact p2 y hy
    rw [dZ.1 hy];omega
   rw [oN,p4]
   unfold nx
   rw [dK,bS (l:=m.h_.getD p.s.toNat []),ht];rfl
  rw [bO h] at hq
  obtain ⟨h1,h2,h3,h4,h5⟩:=ih q hq
  exact ⟨h1,h2,h3,ah,h5⟩
end g_
instance:GR Pc where
 sz:=2
 rep M w cs q:=(∃ad c,cs=[.int .i64 q.s,.slice ad q.word.length c]/\Sl M w ad c q.word)/\i64 q.s
 len h:=by obtain ⟨⟨ad,c,h,_⟩,_⟩:=h;rw [h];rfl
 ext e h:=by obtain ⟨⟨ad,c,h,hs⟩,h2⟩:=h;exact ⟨⟨ad,c,h,hs.ext e⟩,h2⟩
section
variable {N B:Nat} {w w':World} {T:TypeId} {v:Value} {a:Option Addr} {c:Nat} {l:List Pc}
theorem Ox.UY (h:Ox N B w T (.slice a l.length c) l) {j:Nat} {q:Pc} (hq:l[j]? =some q):∃g ad cw,a=some ⟨g,0,none⟩/\w.cell? ⟨g,j*2,none⟩=some (.int .i64 q.s)/\w.cell? ⟨g,j*2+1,none⟩=some (.slice ad q.word.length cw)/\ Sl (fun k=>(Value.slice a l.length c).ownBlock=some k\/k<N) w ad cw q.word/\Hid (i64 q.s)/\B<=g/\g<w.heap.size:=by
 have hj:j<l.length:=by
  by_cases e:j<l.length;·exact e
  rw [bZ ah] at hq;simp at hq
 obtain ⟨g,rfl,hb,hg⟩:=jZ h ah;obtain ⟨xs,h1,h2⟩:=h;obtain ⟨⟨ad,cw,h3,h4⟩,h5⟩:=h2 j q hq;have hx:∀i u,i<2->[Value.int .i64 q.s,.slice ad q.word.length cw][i]? =some u->w.cell? ⟨g,j*2+i,none⟩=some u:=by intro i u hi hu;have hlt:j*2+i<l.length*2:=ah;have e:=h1.cellAt (j*2+i) hlt;rw [e];rw [<-h3,dL,bQ (by exact hi),eu] at hu;exact hu
 exact ⟨g,ad,cw,rfl,hx 0 _ ah rfl,hx 1 _ ah rfl,h4,h5,hb,hg⟩
theorem Ox.afD {s:Int} (hs:i64 s) (hB:B<=w.heap.size):Ox N B (w.alloc (.cells #[.int .i64 s,.slice none 0 0] T)) T (.slice (some ⟨w.heap.size,0,none⟩) 1 1) [(⟨s,[]⟩:Pc)]:=by
 refine ⟨[.int .i64 s,.slice none 0 0],?_,fun j y hj=> ?_⟩;·exact aqk w #[.int .i64 s,.slice none 0 0] 1 hB aS (by simp [GR.sz])
 match j,hj with
 |0,hj=>simp at hj;subst hj;exact ⟨⟨none,0,rfl,Sl.nil _ _ _ aS⟩,hs⟩
end
section
variable {P:Program} {w:World} {o:Oper} {a:Act} {ops:Array Oper} {rest:List Oper} {Q:Exit->Act->World->Prop}
theorem FB {l:List Pc} {s x:Operand} {t e:TypeId} {N B:Nat} {z:Value} {v:Value} {g c:Nat} {q:Pc} {ar:Option Addr} {cr:Nat} (hg:o.guard=none) (hop:o.op= .call {callee:= .builtin .append,args:= #[s,x],argTypes:= #[t,t]}) (ht:P.underlying t=some (.slice e)) (hi:(P.info? e).map (fun i=>(i.zero,i.size,i.bytes))=some (some z,2,32)) (hzs:z.cells.size=2) (hs:a.eval s=v) (hx:a.eval x= .slice (some ⟨g,0,none⟩) 1 c) (jk:Ox N B w e v l) (hn0:w.cell? ⟨g,0,none⟩=some (.int .i64 q.s)) (hn1:w.cell? ⟨g,1,none⟩=some (.slice ar q.word.length cr)) (hy:Sl (fun k=>v.ownBlock=some k\/k<N) w ar cr q.word) (Zz:i64 q.s) (iX:l.length<1000000000000) (hB:B<=w.heap.size) (h:∀(a':Option Addr) (c':Nat) (l':List Pc) (w':World),Hid (l'=l++[q])->Ox N B w' e (.slice a' l'.length c') l'->w.grownBy w' v.ownBlock->wpList P ops Q rest (a.put o.dst (.slice a' l'.length c')) w'):wpList P ops Q (o::rest) a w:=by
 refine rD hg s x t hop e z 2 32 ht hi hzs (by decide) B _ v l hs rfl jk (fun k hk=> .inl hk) ⟨g,0,none⟩ c [.int .i64 q.s,.slice ar q.word.length cr] q hx ⟨⟨ar,cr,rfl,hy⟩,Zz⟩ ?_ ?_ ah aS hB ?_
 ·intro j u hj;match j,hj with
  |0,hj=>simp at hj;subst hj;simpa [Addr.add] using hn0
  |1,hj=>simp at hj;subst hj;simpa [Addr.add] using hn1
  |j+2,hj=>simp at hj
 ·intro u hu;simp at hu;rcases hu with rfl|rfl<;>rfl
 intro a' c' l' w' h1 h2 h3 h4;refine h a' c' l' w' h1 (h2.oF fun k _ hm=> ?_) h4;rcases hm with hm|hm
 ·rcases (h3.out k hm).1 with e|e;·exact .inl (.inl e)
  exact .inr e
 exact .inl (.inr hm)
end
instance:GR Pl where
 sz:=3
 rep M w cs q:=(∃ad c,cs=[.int .i64 q.s,.int .i64 q.t,.slice ad q.word.length c]/\Sl M w ad c q.word)/\i64 q.s/\i64 q.t
 len h:=by obtain ⟨⟨ad,c,h,_⟩,_⟩:=h;rw [h];rfl
 ext e h:=by obtain ⟨⟨ad,c,h,hs⟩,h2⟩:=h;exact ⟨⟨ad,c,h,hs.ext e⟩,h2⟩
abbrev Ou (N:Nat) (v:Value) (k:Nat):Prop:=v.ownBlock=some k\/k<N
abbrev Qu (N B:Nat) (w:World) (T:TypeId) (v:Value) (l:List Pl):Prop:=Ow B (Ou N v) w T v l
section
variable {N B:Nat} {w w':World} {T:TypeId} {v:Value} {a:Option Addr} {c:Nat} {l:List Pl}
theorem Qu.at (h:Qu N B w T (.slice a l.length c) l) {j:Nat} {q:Pl} (hq:l[j]? =some q):∃g ad cw,a=some ⟨g,0,none⟩/\w.cell? ⟨g,j*3,none⟩=some (.int .i64 q.s)/\w.cell? ⟨g,j*3+1,none⟩=some (.int .i64 q.t)/\w.cell? ⟨g,j*3+2,none⟩=some (.slice ad q.word.length cw)/\ Sl (Ou N (.slice a l.length c)) w ad cw q.word/\Hid (i64 q.s/\i64 q.t)/\B<=g/\g<w.heap.size:=by
 have hj:j<l.length:=by
  by_cases e:j<l.length;·exact e
  rw [bZ ah] at hq;simp at hq
 obtain ⟨g,rfl,hb,hg⟩:=jZ h ah;obtain ⟨xs,h1,h2⟩:=h;obtain ⟨⟨ad,cw,h3,h4⟩,h5⟩:=h2 j q hq;have hx:∀i u,i<3->[Value.int .i64 q.s,.int .i64 q.t,.slice ad q.word.length cw][i]? =some u->w.cell? ⟨g,j*3+i,none⟩=some u:=by intro i u hi hu;have hlt:j*3+i<l.length*3:=ah;have e:=h1.cellAt (j*3+i) hlt;rw [e];rw [<-h3,dL,bQ (by exact hi),eu] at hu;exact hu
 exact ⟨g,ad,cw,rfl,hx 0 _ ah rfl,hx 1 _ ah rfl,hx 2 _ ah rfl,h4,h5,hb,hg⟩
theorem Qu.later (h:Qu N B w T v l) (hb:Below w.heap.size w w'):Qu N B w' T v l:=Ow.below h hb
theorem Qu.set (h:Qu N B w T v l) {p:Addr} (hp:p.block<N) (hB:N<=B) (u:Value):Qu N B (w.setCell p u) T v l:=
 h.setOther (.inr hp) (fun k hk=>by have:=(h.lt k hk).1;omega) u
theorem Qu.one {s t:Int} (hs:i64 s) (ht:i64 t) (hB:B<=w.heap.size):Qu N B (w.alloc (.cells #[.int .i64 s,.int .i64 t,.slice none 0 0] T)) T (.slice (some ⟨w.heap.size,0,none⟩) 1 1) [⟨s,t,[]⟩]:=by
 refine ⟨[.int .i64 s,.int .i64 t,.slice none 0 0],?_,fun j y hj=> ?_⟩;·exact aqk w #[.int .i64 s,.int .i64 t,.slice none 0 0] 1 hB aS (by simp [GR.sz])
 match j,hj with
 |0,hj=>simp at hj;subst hj;exact ⟨⟨none,0,rfl,Sl.nil _ _ _ aS⟩,hs,ht⟩
end
section
variable {P:Program} {w:World} {o:Oper} {a:Act} {ops:Array Oper} {rest:List Oper} {Q:Exit->Act->World->Prop}
theorem FC {K:Act->World->Prop} {l:List Pl} {s x:Operand} {t e:TypeId} {N B:Nat} {z:Value} {v:Value} {g c:Nat} {q:Pl} {ar:Option Addr} {cr:Nat} (hop:o.op= .call {callee:= .builtin .append,args:= #[s,x],argTypes:= #[t,t]}) (ht:P.underlying t=some (.slice e)) (hi:(P.info? e).map (fun i=>(i.zero,i.size,i.bytes))=some (some z,3,40)) (hzs:z.cells.size=3) (hs:a.eval s=v) (hx:a.eval x= .slice (some ⟨g,0,none⟩) 1 c) (jk:Qu N B w e v l) (hn0:w.cell? ⟨g,0,none⟩=some (.int .i64 q.s)) (hn1:w.cell? ⟨g,1,none⟩=some (.int .i64 q.t)) (hn2:w.cell? ⟨g,2,none⟩=some (.slice ar q.word.length cr)) (hy:Sl (Ou N v) w ar cr q.word) (Zz:i64 q.s) (vK:i64 q.t) (iX:l.length<1000000000000) (hB:B<=w.heap.size) (h:∀(a':Option Addr) (c':Nat) (l':List Pl) (w':World),Hid (l'=l++[q])->Qu N B w' e (.slice a' l'.length c') l'->Hid (∀k,(Value.slice a' l'.length c').ownBlock=some k->(v.ownBlock=some k\/k=w.heap.size)/\k<w'.heap.size)-> w.grownBy w' v.ownBlock->K (a.put o.dst (.slice a' l'.length c')) w'):o.wp P a w K Q:=by
 refine sF s x t hop e z 3 40 ht hi hzs (by decide) B (Ou N v) v l hs rfl jk (fun k hk=> .inl hk) ⟨g,0,none⟩ c [.int .i64 q.s,.int .i64 q.t,.slice ar q.word.length cr] q hx ⟨⟨ar,cr,rfl,hy⟩,Zz,vK⟩ ?_ ?_ ah aS hB ?_
 ·intro j u hj;match j,hj with
  |0,hj=>simp at hj;subst hj;simpa [Addr.add] using hn0
  |1,hj=>simp at hj;subst hj;simpa [Addr.add] using hn1
  |2,hj=>simp at hj;subst hj;simpa [Addr.add] using hn2
  |j+3,hj=>simp at hj
 ·intro u hu;simp at hu;rcases hu with rfl|rfl|rfl<;>rfl
 intro a' c' l' w' h1 h2 h3 h4;refine h a' c' l' w' h1 (h2.ext (Ext.jA fun k _ hk=> ?_) fun _ _=>rfl) h3 h4;rcases hk with hk|hk
 ·rcases (h3.out k hk).1 with h5|h5;·exact .inl (.inl h5)
  exact .inr h5
 exact .inl (.inr hk)
theorem FD {l:List Pl} {s x:Operand} {t e:TypeId} {N B:Nat} {z:Value} {v:Value} {g c:Nat} {q:Pl} {ar:Option Addr} {cr:Nat} (hg:o.guard=none) (hop:o.op= .call {callee:= .builtin .append,args:= #[s,x],argTypes:= #[t,t]})
    (ht:P.underlying t=some (.slice e)) (hi:(P.info? e).map (fun i=>(i.zero,i.size,i.bytes))=some (some z,3,40)) (hzs:z.cells.size=3)
    (hs:a.eval s=v) (hx:a.eval x= .slice (some ⟨g,0,none⟩) 1 c) (jk:Qu N B w e v l)
    (hn0:w.cell? ⟨g,0,none⟩=some (.int .i64 q.s)) (hn1:w.cell? ⟨g,1,none⟩=some (.int .i64 q.t)) (hn2:w.cell? ⟨g,2,none⟩=some (.slice ar q.word.length cr)) (hy:Sl (Ou N v) w ar cr q.word) (Zz:i64 q.s) (vK:i64 q.t)
    (iX:l.length<1000000000000) (hB:B<=w.heap.size)
    (h:∀(a':Option Addr) (c':Nat) (l':List Pl) (w':World),Hid (l'=l++[q])->Qu N B w' e (.slice a' l'.length c') l'->Hid (∀k,(Value.slice a' l'.length c').ownBlock=some k->(v.ownBlock=some k\/k=w.heap.size)/\k<w'.heap.size)->
     w.grownBy w' v.ownBlock->wpList P ops Q rest (a.put o.dst (.slice a' l'.length c')) w'):wpList P ops Q (o::rest) a w:=
 aqi hg fun _ hK=>FC hop ht hi hzs hs hx jk hn0 hn1 hn2 hy Zz vK iX hB fun a' c' l' w' h2 h3 h4 h5=>hK _ _ (h a' c' l' w' h2 h3 h4 h5)
end
theorem Sg:(prog.info? 205).map (fun i=>(i.zero,i.size,i.bytes))=some (some (.slice none 0 0),1,24):=aB
section
variable {P:Program} {w:World} {ops:Array Oper} {rest:List Oper} {o:Oper} {a:Act} {Q:Exit->Act->World->Prop}
theorem qW (hg:o.guard=none) (x y:Operand) (t:TypeId) (hop:o.op= .makeSlice t x y) (e:TypeId) (z:Value) (bytes:Nat) (ht:P.underlying t=some (.slice e)) (hi:(P.info? e).map (fun i=>(i.zero,i.size,i.bytes))=some (some z,1,bytes)) (hzc:z.cells= #[z]) (n:Nat) (hx:a.eval x= .int .i64 n) (hy:a.eval y= .int .i64 n) (hn:bytes*n<=281474976710656) (hn2:n<=maxLen) (h:wpList P ops Q rest (a.put o.dst (.slice (some ⟨w.heap.size,0,none⟩) n n)) (w.alloc (.cells (madeCells #[z] n) e))):wpList P ops Q (o::rest) a w:=by
 refine aqi hg fun K hK=> ?_;obtain ⟨i,hi1,hi2,hi3,hi4⟩:=aqa hi;have hn':(bytes:Int)*(n:Int)<=281474976710656:=by have h1:((bytes*n:Nat):Int)<=281474976710656:=ah;rwa [aqu] at h1
 have wU:(n:Int)<=9223372036854775807:=by have h1:=hn2;unfold maxLen at h1;omega
 have hr:=run_make (P:=P) w t e i z ht hi1 hi2 .i64 .i64 n n ah (arh _) (by rw [hi4];exact hn') wU;rw [hzc,hi3] at hr;simp only [dK,gy] at hr;unfold Oper.wp;simp only [execOp,hop,hx,hy,hr,ara,aqx,aqU,Oper.upon];exact hK _ _ h
end
structure AJ (w:World) (g na nb k:Nat):Prop where
 size:w.heap.size=g+1+k
 outer:∃cur,w.heap[g]? =some (.cells cur 205 (0,0))/\na<=cur.size/\∀i,i<k->cur[i]? =some (.slice (some ⟨g+1+i,0,none⟩) nb nb)
 row:∀i,i<k->w.heap[g+1+i]? =some (.cells (madeCells #[.bool false] nb) 4 (0,0))
structure uI (w:World) (g na nb:Nat) (K:Nat->Nat->Bool):Prop where
 outer:∀i,i<na->w.cell? ⟨g,i,none⟩=some (.slice (some ⟨g+1+i,0,none⟩) nb nb)
 row:∀i,i<na->∀j,j<nb->w.cell? ⟨g+1+i,j,none⟩=some (.bool (K i j))
 free:∀i,i<na->∀j,w.frozen? ⟨g+1+i,j,none⟩=false
section
variable {w w':World} {g na nb k:Nat} {K:Nat->Nat->Bool}
theorem AJ.init (w:World) (na nb:Nat):AJ (w.alloc (.cells (madeCells #[.slice none 0 0] na) 205)) w.heap.size na nb 0:=
 ⟨aH,⟨_,dS w _,by rw [size_madeCells];simp,fun i hi=>by omega⟩,fun i hi=>by omega⟩
theorem AJ.step (h:AJ w g na nb k) (hk:k<na):AJ ((w.setCell ⟨g,k,none⟩ (.slice (some ⟨w.heap.size,0,none⟩) nb nb)).alloc (.cells (madeCells #[.bool false] nb) 4)) g na nb (k+1):=by
 obtain ⟨cur,h1,h2,h3⟩:=h.outer;have hs:=h.size;have hz:(w.setCell ⟨g,k,none⟩ (.slice (some ⟨w.heap.size,0,none⟩) nb nb)).heap.size=w.heap.size:=by simp [World.setCell]
 refine ⟨by rw [aqc,hz];omega,⟨_,(fA _ _ _ (by rw [hz];omega)).trans (gT _ _ _ _ _ _ h1),iq h2,fun i hi=> ?_⟩,fun i hi=> ?_⟩
 ·by_cases e:i=k;·subst e;rw [Array.getElem?_setIfInBounds_self_of_lt ah,hs]
  rw [arp ah];exact h3 i ah
 by_cases e:i=k;·subst e;have:=dS (w.setCell ⟨g,i,none⟩ (.slice (some ⟨w.heap.size,0,none⟩) nb nb)) (.cells (madeCells #[.bool false] nb) 4);rw [hz,hs] at this;rw [<-hs] at this ⊢;exact this
 rw [fA _ _ _ (by rw [hz];omega),dM _ _ _ _ aJ];exact h.row i ah
theorem AJ.done (h:AJ w g na nb na):uI w g na nb (fun _ _=>false):=by
 obtain ⟨cur,h1,h2,h3⟩:=h.outer;refine ⟨fun i hi=> ?_,fun i hi j hj=> ?_,fun i hi j=> ?_⟩;·rw [ap2 _ _ _ _ _ _ h1];exact h3 i hi
 ·rw [ap2 _ _ _ _ _ _ (h.row i hi),<-aqV,arx,ap3,bQ hj]
 exact gB _ _ _ _ _ (h.row i hi)
theorem uI.below {B:Nat} (h:uI w g na nb K) (hb:Below B w w') (hN:g+1+na<=B):uI w' g na nb K:=
 ⟨fun i hi=>(hb.cell (p:=⟨g,i,none⟩) (show g<B by omega)).trans (h.outer i hi),fun i hi j hj=>(hb.cell (p:=⟨g+1+i,j,none⟩) (show g+1+i<B by omega)).trans (h.row i hi j hj),
  fun i hi j=>(hb.frozen (p:=⟨g+1+i,j,none⟩) (show g+1+i<B by omega)).trans (h.free i hi j)⟩
theorem uI.congr {K':Nat->Nat->Bool} (h:uI w g na nb K) (he:∀i j,i<na->j<nb->K i j=K' i j):uI w g na nb K':=
 ⟨h.outer,fun i hi j hj=>by rw [<-he i j hi hj];exact h.row i hi j hj,h.free⟩
theorem uI.drewN (h:uI w g na nb K) (n:Nat):uI (w.drewN n) g na nb K:=h.below (below_drewN (g+1+na) w n) (bM _)
theorem uI.drew (h:uI w g na nb K):uI w.drew g na nb K:=h.below ((bP (g+1+na) w).drew) (bM _)
theorem uI.set (h:uI w g na nb K) {s t:Nat} (hs:s<na) (ht:t<nb):uI (w.setCell ⟨g+1+s,t,none⟩ (.bool true)) g na nb (fun i j=>if i=s/\j=t then true else K i j):=by
 refine ⟨fun i hi=> ?_,fun i hi j hj=> ?_,fun i hi j=> ?_⟩;·rw [dR _ _ _ _ (by simp<;>omega)];exact h.outer i hi
 ·by_cases e:i=s/\j=t;·obtain ⟨rfl,rfl⟩:=e;simp only [and_self,aqj];exact eU _ _ _ (h.row i hi j hj)
  rw [dR _ _ _ _ aJ,bO e];exact h.row i hi j hj
 rw [gI];exact h.free i hi j
end
end
section
open Tryz
def xw (n:Int):List Int->Option (List Int)
 |[]=>none
 |x::xs=>match xw n xs with
  |some ys=>some (x::ys)
  |none=>if x+1<n then some ((x+1)::List.replicate xs.length 0) else none
theorem acX (n:Int) (a b:List Int):xw n (a++b)=match xw n b with|some ys=>some (a++ys)|none=>(xw n a).map (fun r=>r++List.replicate b.length 0):=by
 induction a with
 |nil=>cases h:xw n b<;>simp [xw,h]
 |cons x a ih=>
  rw [gu,xw,ih];cases h:xw n b with
  |some ys=>simp
  |none=>
   simp only [xw];cases h2:xw n a with
   |some zs=>simp
   |none=>
    simp only [Option.map_none];split;·simp [List.replicate_append_replicate]
    rfl
def nT (w:List Int) (n:Int):List Int:=if jI w n≠0 then [] else match xw n w with|some y=>y|none=>if w.length=1024 then [] else List.replicate (w.length+1) 0
def nU (w:List Int) (n:Int):Bool:=if jI w n≠0 then false else match xw n w with|some _=>true|none=>decide (w.length≠1024)
theorem Ov {w:List Int} {n:Int} (h:jI w n≠0):nT w n=[]/\nU w n=false:=by unfold nT nU;rw [bQ h,bQ h];exact ⟨rfl,rfl⟩
theorem ZA {w:List Int} {n:Int} {k:Nat} {x:Int} (hx:w[k]? =some x) (h:xw n (w.drop (k+1))=none) (hlt:x+1<n):xw n w=some ((w.take (k+1)++List.replicate (w.length-(k+1)) 0).set k (x+1)):=by
 have hk:k<w.length:=by
  by_cases e:k<w.length;·exact e
  rw [bZ ah] at hx;simp at hx
 have e1:w=w.take k++(x::w.drop (k+1)):=by
  conv=>lhs;rw [<-fJ k w]
  rw [eF hk];rw [bN hk] at hx;rw [show w[k]=x by simpa using hx]
 have e2:xw n (x::w.drop (k+1))=some ((x+1)::List.replicate (w.length-(k+1)) 0):=by simp only [xw,h];rw [bQ hlt,aqb]
 conv=>lhs;rw [e1]
 rw [acX,e2];simp only;congr 1
 rw [dh,hx,aqd,eH,List.set_append];rw [bO aJ];congr 1
 have:k-(w.take k).length=0:=aJ;rw [this];rfl
theorem Oz {w:List Int} {n:Int} {k:Nat} {x:Int} (hx:w[k]? =some x) (h:xw n (w.drop (k+1))=none) (hlt:¬x+1<n):xw n (w.drop k)=none:=by
 have hk:k<w.length:=by
  by_cases e:k<w.length;·exact e
  rw [bZ ah] at hx;simp at hx
 rw [bN hk] at hx;rw [eF hk,show w[k]=x by simpa using hx];simp only [xw,h];rw [bO hlt]
theorem ZB {w:List Int} {k:Nat} {x:Int} (hx:w[k]? =some x):(w.take (k+1)++List.replicate (w.length-(k+1)) 0).set k 0=w.take k++List.replicate (w.length-k) 0:=by
 have hk:k<w.length:=by
  by_cases e:k<w.length;·exact e
  rw [bZ ah] at hx;simp at hx
 rw [dh,hx,aqd,eH,List.set_append];rw [bO aJ];have:k-(w.take k).length=0:=aJ;rw [this,List.singleton_append,dF];obtain ⟨d,hd⟩:∃d,w.length-k=d+1:=⟨w.length-k-1,ah⟩;have hd2:w.length-(k+1)=d:=ah;rw [hd,hd2,aqK]
theorem aez {w:List Int} {k:Nat} {x:Int} (hx:w[k]? =some x):(w.take (k+1)++List.replicate (w.length-(k+1)) 0)[k]? =some x:=by
 have hk:k<w.length:=by
  by_cases e:k<w.length;·exact e
  rw [bZ ah] at hx;simp at hx
 rw [dz aJ,dL,bQ ah,hx]
theorem afE {w:List Int} {k:Nat} (hk:k<=w.length):(w.take k++List.replicate (w.length-k) 0).length=w.length:=aJ
theorem OC {w:List Int} {n:Int} {y:List Int} (h:jI w n=0) (hn:xw n w=some y):nT w n=y/\nU w n=true:=by
 have hh:¬jI w n≠0:=iq h;simp only [nT,nU,bO hh,hn];exact ⟨trivial,trivial⟩
theorem JJ {w:List Int} {n:Int} (h:jI w n=0) (hn:xw n w=none) (hl:w.length=1024):nT w n=[]/\nU w n=false:=by
 have hh:¬jI w n≠0:=iq h;simp only [nT,nU,bO hh,hn,hl];simp
theorem Dj {w:List Int} {n:Int} (h:jI w n=0) (hn:xw n w=none) (hl:w.length≠1024):nT w n=List.replicate w.length 0++[0]/\nU w n=true:=by
 have hh:¬jI w n≠0:=iq h;simp only [nT,nU,bO hh,hn,bO hl];simp [hl,ars]
end
section
open Tryz
open Go.RowKit
theorem JK {w:List Int} {n:Int} (h:jI w n=0):1<=n/\n<=1024/\w.length<=1024/\∀x∈w,0<=x/\x<n:=by
 unfold jI at h;split at h;·simp at h
 rename_i h1;split at h;·simp at h
 rename_i h2;split at h;·simp at h
 rename_i h3;refine ⟨ah,ah,ah,fun x hx=> ?_⟩;have:¬(x<0\/n<=x):=fun e=>h3 ⟨x,hx,e⟩;omega
section
variable {M:Nat->Prop} {w:World} {a:Option Addr} {c:Nat}
end
end
section
open Tryz
end
section
open Tryz
open Go.RowKit
section
variable {M:Nat->Prop} {w:World} {a b:Option Addr} {c d:Nat}
theorem ZC {xs ys:List Int} (h1:Sl M w a c xs) (h2:Sl M w b d ys):Calls prog 100 #[.slice a xs.length c,.slice b ys.length d] w fun e w'=>e= .returned (.int .i64 (jc xs ys))/\Hid (∃n,w'=w.drewN n):=by
 have hl1:=h1.le;have hl2:=h2.le;have hle:=Aw xs ys;have hC:=Ay h1 h2;obtain ⟨k,hkd⟩:∃k,k=jf xs ys:=⟨_,rfl⟩;rw [<-hkd] at hC hle;have HC:=bK hC;have HK:=bK hkd;obtain ⟨hkx,hky⟩:=hle;clear hC hkd;by_cases hx:k=xs.length
 ·have hxb:(((k:Nat):Int)==((xs.length:Nat):Int))=true:=by simp [hx]
  by_cases hy:k=ys.length
  ·have hyb:(((k:Nat):Int)==((ys.length:Nat):Int))=true:=by simp [hy]
   have HF:=bK (Wv (a:=xs) (b:=ys) (by rw [<-HK.out];exact hx) (by rw [<-HK.out];exact hy));clear hx hy;go_enter func100,ntmps100;go_wp2_with fail;refine (HC.out).mono ?_;rintro e w1 ⟨rfl,hD⟩;go_wp2;go_ret;exact ⟨kQ HF.out.symm,hD⟩
  have hyb:(((k:Nat):Int)==((ys.length:Nat):Int))=false:=aJ;have HF:=bK (RZ (a:=xs) (b:=ys) (by rw [<-HK.out];exact hx) (by rw [<-HK.out];exact hy));clear hx hy;go_enter func100,ntmps100;go_wp2_with fail;refine (HC.out).mono ?_;rintro e w1 ⟨rfl,hD⟩;go_wp2;go_ret;exact ⟨kQ HF.out.symm,hD⟩
 have hxb:(((k:Nat):Int)==((xs.length:Nat):Int))=false:=aJ;have hxl:k<xs.length:=ah;by_cases hy:k=ys.length;·have hyd:decide (k<ys.length)=false:=aJ;have HF:=bK (Od (a:=xs) (b:=ys) (by rw [<-HK.out];exact hx) (by rw [<-HK.out];exact hy));clear hx hy;go_enter func100,ntmps100;go_wp2_with fail;refine (HC.out).mono ?_;rintro e w1 ⟨rfl,hD⟩;go_wp2;refine go_quiet fun nq=> ?_;go_wp2;go_ret;exact ⟨kQ HF.out.symm,lV hD _⟩
 have hyl:k<ys.length:=ah;have hyd:decide (k<ys.length)=true:=aJ;clear hx hy;go_enter func100,ntmps100;go_wp2_with fail;refine (HC.out).mono ?_;rintro e w1 ⟨rfl,hD⟩;obtain ⟨b1,o1,x,rfl,hxc,hxk, -⟩:=(qV hD h1).iC hxl;obtain ⟨b2,o2,y,rfl,Ca,hyk, -⟩:=(qV hD h2).iC hyl;have HL:=bK (acN (a:=xs) (b:=ys) (by rw [<-HK.out];exact hxk.out) (by rw [<-HK.out];exact hyk.out));have HN:=bK (Lr (a:=xs) (b:=ys) (by rw [<-HK.out];exact hxk.out) (by rw [<-HK.out];exact hyk.out));by_cases hlt:x<y
 ·have hld:decide (x<y)=true:=by simp [hlt]
  have HF:Hid (jc xs ys= -1):=bK (by rw [HL.out,zF hlt]);clear hlt;go_wp2;refine go_quiet fun nq=> ?_;go_wp2;go_ret;exact ⟨kQ HF.out.symm,lV hD _⟩
 have hld:decide (x<y)=false:=aJ;have HF:Hid (jc xs ys=1):=bK (by rw [HL.out,B_ (ig HN.out)]);clear hlt;go_wp2;refine go_quiet fun nq=> ?_;go_wp2;go_ret;exact ⟨kQ HF.out.symm,lV hD _⟩
theorem ZE {xs ys:List Int} (h1:Sl M w a c xs) (h2:Sl M w b d ys):Calls prog 48 #[.slice a xs.length c,.slice b ys.length d] w fun e w'=>e= .returned (.int .i64 (iM xs ys))/\Hid (∃n,w'=w.drewN n):=by
 have HL:=bK (ZC h1 h2);have hl1:=h1.le;have hl2:=h2.le;have hD0:Hid (∃n,w=w.drewN n):=⟨0,rfl⟩;rcases arJ xs.length ys.length with h|h|h
 ·have HF:Hid (iM xs ys= -1):=by unfold Hid iM;rw [bO ah,zF ah]
  go_enter func48,ntmps48;go_wp2;go_ret;exact ⟨kQ HF.out.symm,hD0⟩
 ·have HF:Hid (iM xs ys=jc xs ys):=by unfold Hid iM;rw [bQ h]
  have n1:¬xs.length<ys.length:=ah;have n2:¬ys.length<xs.length:=ah;clear h;go_enter func48,ntmps48;go_wp2_with fail;refine (HL.out).mono ?_;rintro e w1 ⟨rfl,hD⟩;go_wp2;go_ret;exact ⟨kQ HF.out.symm,hD⟩
 have HF:Hid (iM xs ys=1):=by unfold Hid iM;rw [bO ah,B_ ah]
 have n1:¬xs.length<ys.length:=ah;go_enter func48,ntmps48;go_wp2;go_ret;exact ⟨kQ HF.out.symm,hD0⟩
end
abbrev alN (N:Nat) (v:Value) (k:Nat):Prop:=v.ownBlock=some k\/k<N
abbrev Qt (N B:Nat) (w:World) (T:TypeId) (v:Value) (l:List Tr):Prop:=Ow B (alN N v) w T v l
section
variable {N B:Nat} {w w':World} {T:TypeId} {v:Value} {a:Option Addr} {c:Nat} {l:List Tr}
theorem Qt.later (h:Qt N B w T v l) (hb:Below w.heap.size w w'):Qt N B w' T v l:=Ow.below h hb
theorem Qt.set (h:Qt N B w T v l) {p:Addr} (hp:p.block<N) (hB:N<=B) (u:Value):Qt N B (w.setCell p u) T v l:=
 h.setOther (.inr hp) (fun k hk=>by have:=(h.lt k hk).1;omega) u
theorem Qt.sl (h:Qt N B w T (.slice a l.length c) l) (hB:N<=B):Sl (fun k=>k<N) w a c l:=
 (Ow.ext h (Ext.jA fun _ _ hk=> .inr hk) fun _ _=>rfl).jD fun k hk hlt=>by have:=(h.lt k hk).1;omega
end
section
variable {B g:Nat} {a w:World} {y0 y1 x0 x1:Value} {T:TypeId}
end
section
variable {P:Program} {w:World} {o:Oper} {a:Act} {ops:Array Oper} {rest:List Oper} {Q:Exit->Act->World->Prop}
end
end
