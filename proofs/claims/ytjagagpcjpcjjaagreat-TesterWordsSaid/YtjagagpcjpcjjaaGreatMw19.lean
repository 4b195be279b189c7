/- Lemmas, each with its own conditions. -/
import Derived.Test.YtjagagpcjpcjjaaGreatMw16
set_option maxRecDepth 100000
set_option maxHeartbeats 32000000
namespace Go.Proofs.YtjagagpcjpcjjaaGreat
open Tryz
open Go.RowKit
theorem Sl.below' {α:Type} [GR α] {M:Nat->Prop} {w w':World} {a:Option Addr} {c:Nat} {l:List α} (h:Sl M w a c l) (hb:Below w.heap.size w w'):Sl M w' a c l:=h.below hb
theorem yD {x:Value} {a b:Int} (h:a=b):Ending.returned (.tuple #[x,.int .i64 a])= .returned (.tuple #[x,.int .i64 b]):=by rw [h]
theorem grownBy_trans {a b c:World} {r:Option Nat} (h:a.grownBy b r) (k:b.grownBy c r):a.grownBy c r:=
 ⟨k.os.trans h.os,k.tape.trans h.tape,k.output.trans h.output,dH h.size k.size,fun i hi hr=>(k.block i (eZ hi h.size) hr).trans (h.block i hi hr)⟩
theorem grownBy_refl (a:World) (r:Option Nat):a.grownBy a r:=⟨rfl,rfl,rfl,bM _,fun _ _ _=>rfl⟩
theorem grownBy_setCell {a b:World} {g:Nat} (h:a.grownBy b (some g)) (j:Nat) (u:Value):a.grownBy (b.setCell ⟨g,j,none⟩ u) (some g):=
 grownBy_trans h ⟨rfl,rfl,rfl,by simp [World.setCell],fun i _ hi=>dM _ _ _ _ (fun e=>hi (by rw [e]))⟩
theorem afS:WideMaps.ArrKey prog 290 3 128:=⟨underlying290,aB,aB,aB⟩
theorem WU:∃m,prog.types.size=m+1:=⟨prog.types.size-1,aB⟩
theorem aad:(prog.info? 290).map (fun i=>i.size)=some 128:=aB
theorem OQ (w:World):(zeroValue 3).run prog w= .ok (.int .i64 0) w:=aB
def OT:LH prog 290 (List Int):=afL afS underlying3 WU
theorem Sl.val {M:Nat->Prop} {w:World} {a:Option Addr} {c:Nat} {l:List Int} (h:Sl M w a c l) (t:Nat):i64 (l.getD t 0):=by
 by_cases ht:t<l.length;·obtain ⟨_,_,x,_,_,h1,h2⟩:=h.iC ht;rw [iw h1.out];exact h2.out
 rw [bS,bZ ah];unfold i64;simp
theorem Vl {m:g_} (ok:m.Ok) {cls:List Int} (hv:∀t,i64 (cls.getD t 0)) {s:Nat} (hs:s<m.h_.length) {k:Nat} (hk:k<=m.gZ.toNat):∀x∈m.oh cls s k,i64 x:=by
 intro x hx;unfold g_.oh at hx;obtain ⟨i,_,rfl⟩:=aqJ.1 hx;have z:i64 0:=bg;by_cases h1:i<64
 ·rw [bQ h1];by_cases h2:i<k;·rw [bQ h2];have:=ok.ot s i hs ah;unfold i64;omega
  rw [bO h2];exact z
 rw [bO h1];by_cases h2:i-64<k;·rw [bQ h2];exact hv _
 rw [bO h2];exact z
theorem adb {a:Option Addr} {n n' c:Nat} {x y:Value} (h:n=n') (h2:x=y):Ending.returned (.tuple #[.slice a n c,x])= .returned (.tuple #[.slice a n' c,y]):=by rw [h,h2]
theorem AQ {pW:List Int} {k n:Nat} {x:Int} (hl:pW.length=k) (hk:k<n):(pW++List.replicate (n-k) 0).set k x=(pW++[x])++List.replicate (n-(k+1)) 0:=by
 obtain ⟨d,hd⟩:∃d,n-k=d+1:=⟨n-k-1,ah⟩;have h2:n-(k+1)=d:=ah;rw [hd,h2,aro _ _ ah,hl,aq9,aqK,dF];simp
section
variable {M M':Nat->Prop} {w:World} {an ao ac:Option Addr} {cn co cc:Nat} {m:g_} {cls:List Int}
theorem AR (hm:Ma M w an cn ao co m) (hc:Sl M' w ac cc cls) (ok:m.Ok) (hl:cls.length=m.h_.length):Calls prog 211 #[kF m an cn ao co,.slice ac cls.length cc] w fun e w'=> ∃a c l q,e= .returned (.tuple #[.slice a l.length c,.int .i64 q])/\Hid (canon (m.oP cls) cls.length=(l,q))/\Sl (fun k=>k<w.heap.size) w' a c l/\Below w.heap.size w w':=by
 have OK:=bK ok;have HL:=bK hl;have i0:=ok.i0;have i1:=ok.i1;have n1:=ok.n1;have c1:cls.length<=128:=ah;clear ok hl;have hmm:= @asv prog;go_enter func211,ntmps211;go_wp2_with (at_make;refine jX (B:=w.heap.size+1) (n:=cls.length) rfl rfl underlying49 iE rfl ah aH ?_);intro g c l w1 hl hO hb1 hg;have hBm:Below (w.heap.size+1) (w.alloc (.cells #[.int .i64 m.gZ,.int .i64 m.start,.slice an m.h_.length cn,.slice ao m.out.length co] 24)) w1:=by refine Below.trans ?_ (hb1.mono aH);exact (bP _ _).alloc aH _
 have hK:KM OT 3 w1 (w.heap.size+1) 0 0 (fun _=>none):=iq ((KM.made (E:=OT) (e:=3) (w.alloc (.cells #[.int .i64 m.gZ,.int .i64 m.start,.slice an m.h_.length cn,.slice ao m.out.length co] 24))).kept (hb1.block _ aH));have hgm:w.heap.size+1<g:=by first|omega|(simp at hg;omega)
 have hln:Hid (l.length=cls.length):=bK (by rw [hl.out,fC]);clear hb1 hg;go_wp2
 go_loopw [19] (fun i wr=>∃(k q:Nat) (pW ol:List Int) (f:List Int->Option Int),k<=cls.length/\i= .int .i64 k/\Hid (canon (m.oP cls) k=(pW,(q:Int)))/\Hid (ol=pW++List.replicate (cls.length-k) 0)/\Hid (l.length=ol.length)/\
     Hid (pG cls.length (m.vw cls) pW k f)/\KM OT 3 wr (w.heap.size+1) k q f/\Ow (w.heap.size+1) (fun k=>w.heap.size+1<=k) wr 3 (.slice (some ⟨g,0,none⟩) l.length c) ol/\
     Below (w.heap.size+1) (w.alloc (.cells #[.int .i64 m.gZ,.int .i64 m.start,.slice an m.h_.length cn,.slice ao m.out.length co] 24)) wr) (fun i _=>cls.length-(intOf i).toNat)
 case atStart=>exact ⟨0,0,[],l,_,ah,rfl,rfl,bK (by rw [hl.out];simp),rfl,⟨fun t ht=>by omega,fun _ _ _=>rfl⟩,hK,hO,hBm⟩
 case round=>
  obtain ⟨k,q,pW,ol,f,hk,rfl,hE,hol,hll,hSM,hK,hO,hB⟩:=hrel;obtain ⟨wo,rfl⟩:=iA wr;have hbx:∀o,wo.cell? ⟨w.heap.size,o,none⟩=_:=fun o=>hB.cell aH;have hsz:w.heap.size+1<=wo.heap.size:=iq hB.size;have WV:Hid (pW.length=k):=by have:=jy (m.oP cls) k;rw [hE.out] at this;exact this
  by_cases hlt:k<cls.length
  ·have hkn:k<m.h_.length:=by have:=HL.out;omega
   have hmr:Ma M wo an cn ao co m:=hm.ext ((Ext.alloc M w _).trans (Ext.of_below (iq hB)));have hcr:Sl M' wo ac cc cls:=hc.ext ((Ext.alloc M' w _).trans (Ext.of_below (iq hB)));have HMR:=bK hmr;have HCR:=bK hcr;have Az:w.heap.size<wo.heap.size:=ah;have alW:=hK.lt;have afA:=(hO.lt g rfl).2;clear hmr hcr;go_wp2
   go_loopw [24] (fun i w2=>∃a:Nat,a<=m.gZ.toNat/\i= .int .i64 a/\Hid (w2.heap[wo.heap.size]? =some (.cells ((m.oh cls k a).map (Value.int .i64)).toArray 290 (0,0)))/\
    Hid ((wo.alloc (.cells zeroCells290 290)).grownBy w2 (some wo.heap.size))) (fun i _=>m.gZ.toNat-(intOf i).toNat)
   case atStart=>refine ⟨0,ah,rfl,?_,grownBy_refl _ _⟩;unfold Hid;rw [dS,g_.Nq];rfl
   case round=>
    obtain ⟨a,ha,rfl,hX,hG⟩:=hrel;obtain ⟨w2,rfl⟩:=iA wr;have hG2:∀b,b<wo.heap.size->w2.heap[b]? =wo.heap[b]? :=fun b hb=>(hG.out.block b aJ aJ).trans (fA _ _ _ hb);have HG2:=bK hG2;clear hG2;have hs2:wo.heap.size<w2.heap.size:=by have:=hG.out.size;simp at this;omega
    have Oi:∀o,w2.cell? ⟨w.heap.size,o,none⟩=wo.cell? ⟨w.heap.size,o,none⟩:=fun o=>dD (w:=wo) (HG2.out _ Az);have hB2:Below wo.heap.size wo w2:=((bP _ _).alloc (bM _) _).trans ((bP _ _).grown hG.out aH aH);by_cases hai:a<m.gZ.toNat
    ·have acU:(a:Int)<m.gZ:=ah;have hko:k<m.out.length:=ig OK.out.lo;obtain ⟨bn,on,as1,rs1,cs1,bo,oo,as2,rs2,cs2,rfl,rfl,hn1,ho1,hS1,hS2,hr1,hr2,hl1,hl2,hl3⟩:=(HMR.out).row OK.out hkn;obtain ⟨b1,o1,x1,b2,o2,y1,rfl,rfl,he1,he2,hx1,y10,y11,hv1,hv2,la1,la2⟩:=Ma.entry OK.out hkn hS1 hS2 hr1 hr2 hl3 hai;have acV:x1<cls.length:=ig HL.out;obtain ⟨bc,oc,z1,rfl,hz1,acW,aoP⟩:=(HCR.out).iC acV;have q1:bn<wo.heap.size:=(HMR.out).h_.lt hkn;have q2:bo<wo.heap.size:=(HMR.out).out.lt hko;have q3:b1<wo.heap.size:=hS1.lt la1;have q4:b2<wo.heap.size:=hS2.lt la2;have q5:bc<wo.heap.size:=(HCR.out).lt acV;replace hn1:=(dD (w:=wo) (w':=w2) (a:=⟨bn,on+k,none⟩) (HG2.out _ q1)).trans hn1;replace ho1:=(dD (w:=wo) (w':=w2) (a:=⟨bo,oo+k,none⟩) (HG2.out _ q2)).trans ho1;replace he1:=(dD (w:=wo) (w':=w2) (a:=⟨b1,o1+a,none⟩) (HG2.out _ q3)).trans he1;replace he2:=(dD (w:=wo) (w':=w2) (a:=⟨b2,o2+a,none⟩) (HG2.out _ q4)).trans he2;replace hz1:=(dD (w:=wo) (w':=w2) (a:=⟨bc,oc+x1,none⟩) (HG2.out _ q5)).trans hz1;have hst:∀(b o j:Nat) (u:Value),b≠wo.heap.size->(w2.setCell ⟨wo.heap.size,j,none⟩ u).cell? ⟨b,o,none⟩=w2.cell? ⟨b,o,none⟩:=fun b o j u hb=>dD (w:=w2) (dM _ _ _ _ hb);have hsf:∀(j o:Nat) (u:Value),(w2.setCell ⟨wo.heap.size,j,none⟩ u).frozen? ⟨wo.heap.size,o,none⟩=w2.frozen? ⟨wo.heap.size,o,none⟩:=fun j o u=>gI _ _ _ _;have d1:¬bn=wo.heap.size:=ah;have d2:¬bo=wo.heap.size:=ah;have d3:¬b1=wo.heap.size:=ah;have d4:¬b2=wo.heap.size:=ah;have d5:¬bc=wo.heap.size:=ah;have d6:¬w.heap.size=wo.heap.size:=ah
     have hx0:∀j,j<128->w2.cell? ⟨wo.heap.size,j,none⟩=some (((m.oh cls k a).map (Value.int .i64))[j]?.getD undef):=fun j hj=>by
      rw [ap2 _ _ _ _ _ _ hX.out]
      simp [g_.jT,hj]
     have hxa:=hx0 a ah;have hxb:=hx0 (64+a) ah;have hxf:∀j,w2.frozen? ⟨wo.heap.size,j,none⟩=false:=fun j=>gB _ _ _ _ _ hX.out;clear hx0;generalize ((m.oh cls k a).map (Value.int .i64))[a]?.getD undef=va at hxa;generalize ((m.oh cls k a).map (Value.int .i64))[64+a]?.getD undef=vb at hxb;have aoQ:∀u,(w2.setCell ⟨wo.heap.size,a,none⟩ u).cell? ⟨wo.heap.size,64+a,none⟩=some vb:=fun u=>by rw [dR _ _ _ _ aH];exact hxb
     go_wp2;go_roundw;case rel=>refine ⟨a+1,ah,by go_num,?_,grownBy_setCell (grownBy_setCell hG.out _ _) _ _⟩;unfold Hid;rw [gT _ _ _ _ _ _ (gT _ _ _ _ _ _ hX.out),g_.Nr m cls k ah,hv2.out,hv1.out,dK,iw acW.out];simp [List.map_set]
     case measure=>exact bF
    have acU:¬(a:Int)<m.gZ:=ah;have nH:Hid (w2.heap[wo.heap.size]? =some (.cells ((m.vw cls k).map (Value.int .i64)).toArray 290 (0,0))):=by have:a=m.gZ.toNat:=ah;unfold g_.vw;rw [<-this];exact hX
    have hok:Hid (OT.ok (m.vw cls k)):=⟨m.jT cls k _,Vl OK.out (fun t=>hc.val t) hkn (bM _)⟩;have hK2:KM OT 3 w2 (w.heap.size+1) k q f:=hK.kept (HG2.out _ alW);have hO2:Ow (w.heap.size+1) (fun k=>w.heap.size+1<=k) w2 3 (.slice (some ⟨g,0,none⟩) l.length c) ol:=hO.below hB2;have hB3:Below (w.heap.size+1) (w.alloc (.cells #[.int .i64 m.gZ,.int .i64 m.start,.slice an m.h_.length cn,.slice ao m.out.length co] 24)) w2:=hB.trans (hB2.mono hsz);have hsm:Hid ((f (m.vw cls k)=none/\look (m.oP cls) pW k k<0)\/∃v,f (m.vw cls k)=some v/\0<=v/\look (m.oP cls) pW k k=v):=by have h1:=pG.look (g:=m.vw cls) (E:=m.oP cls) (k:=k) (f:=f) (fun t s=>m.Ns cls s t i1) (by rw [hE.out];exact hSM.out) hlt;rw [hE.out] at h1;exact h1
    clear HMR HCR;have aae:Hid ((prog.info? 290).map (·.size)=some (((m.vw cls k).map (Value.int .i64)).toArray).size):=by unfold Hid;rw [aad];simp [g_.vw,g_.jT]
    have ade:Hid (k<ol.length):=bK (by rw [hol.out,dB,fC,WV.out];omega);have hgw:g<w2.heap.size:=ah;rcases hsm.out with ⟨hn,hlk⟩|⟨v,hv,hv0,hlk⟩
    ·have hs:(f (m.vw cls k)).isSome=false:=by simp [hn]
     have HN:=bK hn;have HLK:=bK hlk;have aoR:=hK.size_le;have hqi:Hid (i64 q):=by unfold Hid i64;omega
     clear hn hlk
     go_wp2_with (first
      |(refine wpList_load_row rfl 290 _ rfl wo.heap.size rfl 290 _ (0,0) _ nH.out underlying290 rfl aae.out ?_)
      |(at_lookup;refine xD rfl rfl underlying288 underlying3 (OQ _) rfl hK2 (m.vw cls k) hok.out rfl ?_;intro cv hcv)
      |(at_len;refine ze rfl rfl underlying288 rfl hK2 ?_)
      |(at_mapUpdate;refine Jb rfl rfl underlying288 underlying3 rfl hK2 ah (m.vw cls k) hok.out rfl q rfl hqi.out ?_))
     intro w4 f' hf' hK4 hgr;replace hK4:KM OT 3 w4 (w.heap.size+1) (k+1) (q+1) f':=by simpa [hs] using hK4
     have hO4:Ow (w.heap.size+1) (fun k=>w.heap.size+1<=k) w4 3 (.slice (some ⟨g,0,none⟩) l.length c) ol:=
      hO2.ext (Ext.grownBy hgr (fun k hk=>by simp at hk;omega)) (fun j hj=>hgr.block j (hO2.lt j hj).2 (by simp [Value.ownBlock] at hj;simp;omega))
     have hB4:=hB3.grown hgr ah (fun j hj=>by simp at hj;omega);obtain ⟨g',xv,hg',hxc,hxf, -, -⟩:=hO4.mO hll.out ade.out;obtain rfl:g=g':=iq hg';have kV:=hO4.nu hll.out (show w.heap.size+1<=g by omega) k (x:=q) hqi.out;have xE:KM OT 3 (w4.setCell ⟨g,k,none⟩ (.int .i64 q)) (w.heap.size+1) (k+1) (q+1) f':=hK4.kept (dM _ _ _ _ aJ);have jw:=hB4.setCell (p:=⟨g,k,none⟩) (show w.heap.size+1<=g by omega) (.int .i64 q);have hkl:k<l.length:=by have:=ade.out;have:=hll.out;omega
     have hcn:Hid (canon (m.oP cls) (k+1)=(pW++[(q:Int)],((q+1:Nat):Int))):=by
      have h1:(canon (m.oP cls) k).1=pW:=by rw [hE.out]
      have h2:(canon (m.oP cls) k).2=q:=by rw [hE.out]
      unfold Hid;rw [yh _ (by rw [h1];exact HLK.out),h1,h2];simp
     have afT:Hid (pG cls.length (m.vw cls) (pW++[(q:Int)]) (k+1) f'):=pG.new hSM.out WV.out hlt HN.out hf'.out.1 (fun s hN hs'=>hf'.out.2 _ ⟨m.jT cls s _,Vl OK.out (fun t=>hc.val t) (ig HL.out) (bM _)⟩ hs');clear hgr hf' hcv hO4 hK4 hO2 hK2 hB4 hO hK;go_wp2;go_roundw;case rel=>exact ⟨k+1,q+1,pW++[(q:Int)],ol.set k q,f',ah,by go_num,hcn,bK (by rw [hol.out,AQ WV.out hlt]),bK (by rw [fB];exact hll.out),afT,xE,kV,jw⟩
     case measure=>exact bF
    have hs:(f (m.vw cls k)).isSome=true:=by simp [hv]
    have HN:=bK hv;have HLK:=bK hlk;have hcn:Hid (canon (m.oP cls) (k+1)=(pW++[v],(q:Int))):=by
     have h1:(canon (m.oP cls) k).1=pW:=by rw [hE.out]
     have h2:(canon (m.oP cls) k).2=q:=by rw [hE.out]
     unfold Hid;rw [yj _ (by rw [h1,HLK.out];omega),h1,h2,HLK.out]
    have hvi:Hid (i64 v):=by have h1:=(kr (m.oP cls) (k+1)).2.2 k ah;have h2:=(kr (m.oP cls) (k+1)).2.1;rw [hcn.out] at h1 h2;simp only at h1 h2;rw [r_ WV.out.symm] at h1;unfold Hid i64;omega
    have afT:Hid (pG cls.length (m.vw cls) (pW++[v]) (k+1) f):=pG.old hSM.out WV.out HN.out;clear hv hlk;obtain ⟨g',xv,hg',hxc,hxf, -, -⟩:=hO2.mO hll.out ade.out;obtain rfl:g=g':=iq hg';have kV:=hO2.nu hll.out (show w.heap.size+1<=g by omega) k (x:=v) hvi.out;have xE:KM OT 3 (w2.setCell ⟨g,k,none⟩ (.int .i64 v)) (w.heap.size+1) (k+1) q f:=by obtain ⟨D,h1,h2⟩:=hK2.kept (dM w2 ⟨g,k,none⟩ (.int .i64 v) (w.heap.size+1) aJ);exact ⟨D,h1.mono ah,h2⟩
    have jw:=hB3.setCell (p:=⟨g,k,none⟩) (show w.heap.size+1<=g by omega) (.int .i64 v);have hkl:k<l.length:=by have:=ade.out;have:=hll.out;omega
    go_wp2_with (first
     |(refine wpList_load_row rfl 290 _ rfl wo.heap.size rfl 290 _ (0,0) _ nH.out underlying290 rfl aae.out ?_)
     |(at_lookup;refine xD rfl rfl underlying288 underlying3 (OQ _) rfl hK2 (m.vw cls k) hok.out rfl ?_;intro cv hcv;obtain rfl:cv=v:=hcv.out v HN.out))
    go_roundw;case rel=>exact ⟨k+1,q,pW++[cv],ol.set k cv,f,ah,by go_num,hcn,bK (by rw [hol.out,AQ WV.out hlt]),bK (by rw [fB];exact hll.out),afT,xE,kV,jw⟩
    case measure=>exact bF
  have hke:Hid (k=cls.length):=bK ah;have hoe:Hid (ol=pW):=bK (by rw [hol.out,hke.out,aq9];simp);go_wp2_with (at_len;refine ze rfl rfl underlying288 rfl hK ?_);go_ret2;refine ⟨some ⟨g,0,none⟩,c,ol,q,adb hll.out rfl,bK (by rw [<-hke.out,hoe.out];exact hE.out),?_,((bP _ _).alloc (bM _) _).trans (hB.mono ah)⟩;have:=hll.out;rw [this] at hO;exact hO.fresh ah
end
