import Derived.Test.YtldmkbhgdbafhaaGreatL08
import Derived.Test.YtldmkbhgdbafhaaGreatL16
namespace Go.Proofs.YtldmkbhgdbafhaaGreat
open Go.RowKit
set_option linter.unusedSimpArgs false
set_option linter.unusedVariables false
set_option maxRecDepth 100000
set_option maxHeartbeats 64000000
def dV (k:Int):List Pt->List Pt
 | []=>[]
 | p::l=>if tmI p.n k=0 then dV k l else p.wn (tmI p.n k)::dV k l
theorem kZ (k:Int) (p:Pt):∀l:List Pt,dV k (l++[p])=dV k l++(if tmI p.n k=0 then [] else [p.wn (tmI p.n k)])
 | []=>by simp only[Dm,dV]
 | x::l=>by
   simp only[D3,dV,kZ k p l]
   split
   ·rfl
   rfl
theorem jV {k:Int}:∀ {l:List Pt} {q:Pt},q∈dV k l->∃p∈l,q=p.wn (tmI p.n k)/\tmI p.n k≠0
 | [],q,h=>by cases h
 | x::l,q,h=>by
   unfold dV at h
   split at h
   ·obtain⟨p,a,b⟩:=jV h;exact⟨p,by simp[a],b⟩
   rcases Db.1 h with rfl | h
   ·exact⟨x,by simp,rfl,‹_›⟩
   obtain⟨p,a,b⟩:=jV h;exact⟨p,by simp[a],b⟩
theorem l7 {k:Int}:∀ {l:List Pt} {p:Pt},p∈l->tmI p.n k≠0->p.wn (tmI p.n k)∈dV k l
 | x::l,p,h,hn=>by
   unfold dV;rcases Db.1 h with rfl | h
   ·rw[if_neg hn];simp
   split
   ·exact l7 h hn
   exact Db.2 (.inr (l7 h hn))
theorem wX (a b:Int):(tmI a b).natAbs<=1152921504606846976:=by unfold tmI;split<;>omega
theorem xI {t:T} {k:Int} (y:Nm t):al (.mk (dV k t.pts) (tmI t.con k))=al (az t k):=by
 by_cases j:k=0
 ·subst j;have m:∀a:Int,tmI a 0=0:=fun a=>by simp[tmI]
  have:∀l:List Pt,dV 0 l=[]:=by
   intro l
   induction l with
   | nil=>rfl
   | cons x l ih=>simp[dV,m,ih]
  rw[this,m];rfl
 have q:az t k=.mk (dM k t.pts) (t.con*k):=by unfold az;rw[if_neg j]
 by_cases h:(t.con*k).natAbs<=1152921504606846976/\∀p∈t.pts,(p.n*k).natAbs<=1152921504606846976
 ·have:∀l:List Pt,(∀p∈l,p.n≠0/\(p.n*k).natAbs<=1152921504606846976)->dV k l=dM k l:=by
   intro l
   induction l with
   | nil=>intro _;rfl
   | cons x l ih=>
    intro o;have r:=o x (by simp);have e:tmI x.n k=x.n*k:=by unfold tmI;rw[if_pos r.2]
    simp only[dV,dM,e];rw[if_neg (Int.mul_ne_zero r.1 j),ih (fun p b=>o p (by simp[b]))]
  rw[this t.pts (fun p b=>⟨(T.ok_iff.1 y.1 p b).1,h.2 p b⟩),show tmI t.con k=t.con*k by unfold tmI;rw[if_pos h.1],<-q]
 have u:¬Sm (az t k):=fun g=>by
  rw[q] at g;obtain⟨c,d,_⟩:=g;rw[T.mk_con] at c;rw[T.mk_pts] at d;refine h ⟨by omega,fun p b=>?_⟩;obtain⟨i,w⟩:=DQ b;have:=d _ (CW (ig (k:=k) w));have e:(p.wn (p.n*k)).n=p.n*k:=rfl;rw[e] at this;omega
 have v:¬Sm (.mk (dV k t.pts) (tmI t.con k)):=fun g=>by
  obtain⟨c,d,_⟩:=g;rw[T.mk_con] at c;rw[T.mk_pts] at d;refine h ⟨?_,fun p b=>?_⟩
  ·unfold tmI at c
   split at c
   ·assumption
   omega
  by_cases f:(p.n*k).natAbs<=1152921504606846976
  ·exact f
  have e:tmI p.n k=1152921504606846976:=by unfold tmI;rw[if_neg f]
  have:=d _ (l7 b (by rw[e];decide));have s:(p.wn (tmI p.n k)).n=tmI p.n k:=rfl;rw[s,e] at this;omega
 unfold al;rw[if_neg u,if_neg v]
theorem ld (C:Nat->Prop) (t:T) (k:Int) (w:World) (A:Option Addr) (c:Nat) (ht:Nm t) (hk:k.natAbs<=1099511627776) (a9:t.wd<=10000) (hT:TAt w C A t):
 Calls Tryz.prog 129 #[tmV t A c,I k] w (TeP w (fun g=>C g\/w.heap.size<=g) (al (az t k))):=by
  obtain⟨n,hn⟩:∃n,n=t.pts.length:=⟨_,rfl⟩;obtain⟨a,ha⟩:∃a,a=t.con:=⟨_,rfl⟩;have c6:n<=10000:=by rw[hn];exact aA a9
  obtain⟨r,hr⟩:∃r,r=al (az t k):=⟨_,rfl⟩;rw[<-hr];obtain⟨R,M⟩:∃x,x=tmI a k:=⟨_,rfl⟩;have ak:Z (∀W,Calls Tryz.prog 163 #[I a,I k] W fun e w'=>e=.returned (I R)/\w'=W):=bZ (fun W=>by rw[M];exact mO W a k (by have:=ht.2.1.1;omega) (by omega));have bk:Z (∀W p,p∈t.pts->Calls Tryz.prog 163 #[I p.n,I k] W fun e w'=>e=.returned (I (tmI p.n k))/\w'=W):=bZ (fun W p F=>mO W p.n k (by have:=ht.2.1.2.1 p F;omega) (by omega));unfold tmV;rw[<-hn,<-ha];obtain⟨W0,am,t1,t2,t3,k0,bp⟩:=iR w 38 #[I a,.slice A n c] #[I 0,.slice none 0 0] #[I R,.slice none 0 0];obtain⟨ga,a3⟩:∃g,g=w.heap.size:=⟨_,rfl⟩;obtain⟨gr,a4⟩:∃g,g=w.heap.size+1:=⟨_,rfl⟩;obtain⟨q,a2⟩:∃g,g=w.heap.size+1+1:=⟨_,rfl⟩;rw[<-a3] at t1;rw[<-a4] at t2;rw[<-a2] at t3;have d:Z (w.heap.size<=ga/\w.heap.size<=gr/\w.heap.size<=q/\ga≠q/\gr≠q/\q<W0.heap.size/\gr<W0.heap.size/\ga<W0.heap.size):=bZ (by omega);have bd:Z (TAt W0 (fun g=>C g/\g<w.heap.size) A t):=bZ ((hT.mono (D:=fun g=>C g/\g<w.heap.size) (fun g hg hc=>⟨hc,hg⟩)).keep0 k0);have ap:=bZ hn;have ao:Z (al (.mk (dV k t.pts) R)=r):=bZ (by rw[hr,M,ha];exact xI ht);have b0:Z (∀j,(∀x∈dV k (t.pts.take j),x.n≠0/\x.ok/\x.of.wd<=10000/\x.n.natAbs<=1152921504606846976)):=bZ (fun j x N=>by
   obtain⟨p,F,rfl,h0⟩:=jV N;have F:=DD F;exact⟨h0,(T.ok_iff.1 ht.1 p F).2,(T.wd_iff.1 a9).2 p F,wX _ _⟩)
  have an:Z (R.natAbs<=1152921504606846976):=bZ (by rw[M];exact wX _ _);have b5:=bZ k0;replace t1:=bZ t1;replace t2:=bZ t2;replace t3:=bZ t3;clear hr hn ha M ht a9 hT k0 bp;go_enter Tryz.func129,Tryz.ntmps129;go_wp2_with (go_at_call 163;refine(ak.o _).mono ?_;rintro e w' ⟨rfl,rfl⟩);rw[<-am,<-a2,<-a4,<-a3];clear am a3 a4 a2 ak;go_loopw [7] (fun i wr=>∃(j:Nat) (L:List Pt) (P:Option Addr) (Q:Nat),j<=n/\i=I j/\L.length<=j/\Z (L=dV k (t.pts.take j))/\Z (Blk wr q 38 #[I R,.slice P L.length Q])/\Z (af Pt.tr 5 221 (fun g=>C g/\g<w.heap.size) W0.heap.size wr P Q L)/\Z (ad [q] W0 wr)) (fun i _=>n - (intOf i).toNat)
  case atStart=>exact⟨0,[],none,0,C3 _,rfl,C9 _,bZ rfl,t3,bZ af.nil,bZ (ad.refl _ _)⟩
  obtain⟨j,L,P,Q,hj,rfl,c7,hL,s,hG,hK⟩:=hrel;obtain⟨H,bq⟩:∃x,x=wr:=⟨_,rfl⟩;subst bq;have ba:=bZ (t1.o.keep hK.o (by rw[CZ];exact d.o.2.2.2.1));have br:=bZ (t2.o.keep hK.o (by rw[CZ];exact d.o.2.2.2.2.1));by_cases bo:j<n
  ·obtain⟨p,F⟩:=aI (l:=t.pts) (j:=j) (by rw[<-ap.o];exact bo);obtain⟨g,bt,Y,K,J,rfl,hC,hg,c0,c1,c2,c3,c4,au,av,ax⟩:=(bd.o.keep hK.o (fun y hy h=>by have h:=h.2;rw[CZ.1 hy] at h;have:=d.o;omega)).get F;have b2:=CW F;have c8:(j:Int)<(n:Int):=by omega
   have wj:IntKind.i64.wrap ((j:Int)+1)=(j:Int)+1:=C0 _ (by omega);have e1:H.cell? (U q 1)=G P L.length Q:=s.o.cell 1;have ef:H.frozen? (U q 1)=false:=s.o.frozen 1;have a1:H.cell? (U ga 1)=G (some (U g bt)) n c:=ba.o.cell 1;have lO:=s.o.lt;have la:=ba.o.lt;obtain⟨z,S⟩:∃z,z=p.wn (tmI p.n k):=⟨_,rfl⟩;have HT:Z (∀W,Calls Tryz.prog 163 #[I p.n,I k] W fun e w'=>e=.returned (I z.n)/\w'=W):=bZ (fun W=>by rw[S];exact bk.o W p b2);have z1:p.kd=z.kd:=by rw[S];rfl
   have z2:p.v=z.v:=by rw[S];rfl
   have z3:p.b=z.b:=by rw[S];rfl
   have a6:Z (K<=J/\J<=maxLen/\bP H (fun g=>C g/\g<w.heap.size) z Y K):=bZ (by rw[S];exact⟨au,av,ax⟩);have ar:Z (dV k (t.pts.take (j+1))=L++(if z.n=0 then [] else [z])):=bZ (by rw[Dq,F,hL.o,S];exact kZ k p _);rw[z1] at c1;rw[z2] at c2;rw[z3] at c3;have kz:=bZ ((ad.refl [] H).alloc (.cells #[I z.n,I z.kd,I z.v,I z.b,.slice Y K J] 221));replace S:=bZ S;clear z1 z2 z3 F b2 ax au av;by_cases m:z.n=0
   ·have bs:(z.n !=0)=false:=by simp[m]
    have B:Z (L=dV k (t.pts.take (j+1))):=bZ (by rw[ar.o,if_pos m,DA]);have b6:=bZ (hG.o.keep0 kz.o);have b9:=bZ (hK.o.trans kz.o.nil);have bm:=bZ (s.o.keep kz.o (by simp));replace m:=bZ m;go_wp2_with (go_at_call 163;refine(HT.o _).mono ?_;rintro e w' ⟨rfl,rfl⟩);go_roundw
    case rel=>exact⟨j+1,L,P,Q,by omega,by go_num,by omega,B,bm,b6,b9⟩
    case measure=>simp[intOf];omega
   have bs:(z.n !=0)=true:=by rw[bne_iff_ne];exact m
   have B:Z (L++[z]=dV k (t.pts.take (j+1))):=bZ (by rw[ar.o,if_neg m]);replace m:=bZ m;have O:=bZ (kz.o.alloc (.cells #[I z.n,I z.kd,I z.v,I z.b,.slice Y K J] 221));have b8:=bZ (hG.o.keep0 O.o);have bc:=bZ (hK.o.trans O.o.nil);have bn:=bZ (s.o.keep O.o (by simp));have E:Z (K<=J/\J<=maxLen/\bP ((H.alloc (.cells #[I z.n,I z.kd,I z.v,I z.b,.slice Y K J] 221)).alloc (.cells #[I z.n,I z.kd,I z.v,I z.b,.slice Y K J] 221)) (fun g=>C g/\g<w.heap.size) z Y K):=bZ ⟨a6.o.1,a6.o.2.1,a6.o.2.2.keep0 O.o⟩;have aq:Z (∀g,g<W0.heap.size->(Value.slice P L.length Q).ownBlock≠some g):=bZ (fun g hg e=>by have:=(hG.o.own e).1;omega);clear kz;go_wp2_with (first | (go_at_call 163;refine(HT.o _).mono ?_;rintro e w' ⟨rfl,rfl⟩) | (at_builtin;refine aw (f:=Pt.tr) (W0:=W0) (X:=[q]) (by rfl) (.tmp 35) (.tmp 37) 36 rfl 56 _ Tryz.underlying36 dO rfl (by decide) (L:=L) z b8.o bc.o rfl (V (H.heap.size+1)) 1 (ptV z Y K J) rfl rfl (dA _ _ _ _ _) (bL.2 ⟨Y,K,J,rfl,E.o.1,E.o.2.1,E.o.2.2.mono (fun g _ h=>⟨h,aq.o g (by have:=h.2;have:=d.o;omega)⟩)⟩) (by omega) (by unfold maxLen;omega) ?_;intro aa ab w3 bx bz bu;have b3:=bZ (eE bn.o bu.o (aq.o q d.o.2.2.2.2.2.1));have y3:=b3.o.cell;have ca:=b3.o.frozen));have e3:(L++[z]).length=L.length+1:=by simp
   have b4:=b3.o.set_ 1 (.slice aa (L.length+1) ab);have kO:ad [q] w3 (w3.setCell (U q 1) (.slice aa (L.length+1) ab)):=(ad.refl [q] w3).setCell (.inl (by simp)) _;have b7:=bZ (bx.o.keep kO (fun y hy=>by rw[CZ.1 hy];have:=d.o;exact⟨by omega,fun h=>by have:=h.2;omega⟩));have bb:=bZ (bz.o.trans kO);replace b4:=bZ b4;replace e3:=bZ e3;go_roundw
   case rel=>exact⟨j+1,L++[z],aa,ab,by omega,by go_num,by rw[e3.o];omega,B,by rw[e3.o];exact b4,b7,bb⟩
   case measure=>simp[intOf];omega
  obtain rfl:j=n:=by omega
  have a0:L=dV k t.pts:=by rw[hL.o,ap.o,List.take_length]
  have u:=b0.o j;rw[<-hL.o] at u;have HL:Z (∀W,ad [] H W->Calls Tryz.prog 128 #[.agg #[I R,.slice P L.length Q]] W (TeP W (fun g=>(C g\/w.heap.size<=g)/\g≠gr) r)):=bZ (fun W hW=>by
   have:=dY (fun g=>(C g\/w.heap.size<=g)/\g≠gr) (T.mk L R) W P Q (by rw[T.mk_pts];exact⟨hG.o.mc,hG.o.cm⟩) (T.ok_iff.2 (by rw[T.mk_pts];exact fun x N=>⟨(u x N).1,(u x N).2.1⟩)) ⟨by rw[T.mk_con];have:=an.o;omega,fun x N=>by rw[T.mk_pts] at N;have:=(u x N).2.2.2;omega⟩
    (T.wd_iff.2 (by rw[T.mk_pts];exact⟨by omega,fun x N=>by have:=(u x N).2.2.1;omega⟩)) (gV.2 (by rw[T.mk_pts];exact(hG.o.rows.mono (fun g _ h=>by have:=d.o;have:=b5.o.size;rcases h with h | h;exact⟨.inl h.1,by have:=h.2;omega⟩;exact⟨.inr (by omega),by omega⟩)).keep0 hW))
   unfold tmV at this;rw[T.mk_pts,T.mk_con,a0,ao.o] at this;rw[a0];exact this)
  have q0:H.cell? (U q 0)=some (I R):=s.o.cell 0;have q1:H.cell? (U q 1)=G P L.length Q:=s.o.cell 1;have b1:H.cell? (U ga 1)=G A j c:=ba.o.cell 1;have lr:=br.o.lt;clear a0 u;go_wp2_with (go_at_call 128;refine(HL.o _ (ad.refl _ _)).mono ?_;intro e w5 h5;obtain⟨A5,c5,rfl,m5,n5,T5,k5⟩:=h5;have ac:=bZ (br.o.keep k5.o (by simp));have xr:=ac.o.cell;have c9:=ac.o.frozen);have kk:Z (ad [] w w5):=bZ (((b5.o.nil.trans hK.o).mono (fun y hy=>.inr (by rw[CZ.1 hy];exact d.o.2.2.1))).trans k5.o);have a5:=bZ (aM (D:=fun g=>C g\/w.heap.size<=g) (r:=r) d.o.2.1 kk.o ⟨m5,n5⟩ (T5.o.mono (fun g _ h=>h)));have bf:=(ac.o.set_ 0 (I r.1.con)).set_ 1 (.slice A5 r.1.pts.length c5);have d0:=bf.cell 0;have d1:=bf.cell 1;refine bodyPost_ret (v:=.tuple #[.agg #[I r.1.con,.slice A5 r.1.pts.length c5],I r.2]) (by simp[results,Tryz.results129,go_sem,d0,d1]) rfl ?_;exact a5.o
theorem pt (w:World) (a b c:TypeId) (c1 c2 c3:Array Value):∃W,W=((w.alloc (.cells c1 a)).alloc (.cells c2 b)).alloc (.cells c3 c)/\Blk W w.heap.size a c1/\Blk W (w.heap.size+1) b c2/\Blk W (w.heap.size+1+1) c c3/\ad [] w W/\W.heap.size=w.heap.size+3:=by
 have d:=Blk.new (w.alloc (.cells c1 a)) b c2;have e:=Blk.new ((w.alloc (.cells c1 a)).alloc (.cells c2 b)) c c3;rw[show (w.alloc (.cells c1 a)).heap.size=w.heap.size+1 by simp] at d;rw[show ((w.alloc (.cells c1 a)).alloc (.cells c2 b)).heap.size=w.heap.size+1+1 by simp] at e;exact⟨_,rfl,((Blk.new w a c1).alloc _).alloc _,d.alloc _,e,(((ad.refl [] w).alloc _).alloc _).alloc _,by simp⟩
theorem tG (w:World) (i n:Int) (s F E:ByteArray) (A:Option Addr) (c:Nat) (y: -9223372036854775808<=n/\n<9223372036854775808):
 Calls Tryz.prog 212 #[xv 1 i ⟨1,n,s⟩ F E A 0 c] w (TeP w (fun g=>w.heap.size<=g) (al (.c n))):=by
  have t:Z (∀W,Calls Tryz.prog 197 #[.agg #[.int .i64 n,.slice none 0 0]] W (TeP W (fun g=>W.heap.size<=g) (al (.c n)))):=bZ (fun W=>iE W _ n y);unfold xv;obtain⟨W0,f,O,p,P,B,l⟩:=pt w 26 38 221 #[.int .i64 1,.string F,.string E,.int .i64 i,.int .i64 1,.int .i64 n,.string s,.slice A 0 c] #[.int .i64 0,.slice none 0 0] #[.int .i64 1,.int .i64 0,.int .i64 i,.int .i64 0,.slice none 0 0];obtain⟨x,b⟩:∃g,g=w.heap.size+1:=⟨_,rfl⟩;rw[<-b] at p;obtain⟨r,z⟩:∃r,r=al (.c n):=⟨_,rfl⟩;obtain⟨D,j⟩:∃D:Nat->Prop,D=fun g=>w.heap.size<=g:=⟨_,rfl⟩;rw[<-z] at t ⊢;rw[<-j];have k:Z (w.heap.size<=x/\x<W0.heap.size/\w.heap.size<=W0.heap.size):=bZ (by omega);replace j:=bZ j;have R:=bZ p;have m:=bZ B;clear z O p P B l y;go_enter Tryz.func212,Tryz.ntmps212;go_wp2_with (go_at_call 197;rw[<-f,<-b];clear f b;refine(t.o W0).mono ?_;intro e T L;obtain⟨q,c5,rfl,M,N,H,C⟩:=L;have a:=bZ (R.o.keep C.o (by simp));have X:=a.o.cell;have Q:=a.o.frozen;have S:=a.o.lt);have d:=bZ (aM (D:=D) (r:=r) k.o.1 (m.o.trans C.o) ⟨M,N⟩ (H.o.mono (fun g _ h=>⟨by rw[j.o];have:=k.o;omega,by have:=k.o;omega⟩)));have u:=(a.o.set_ 0 (.int .i64 r.1.con)).set_ 1 (.slice q r.1.pts.length c5);have J:=u.cell 0;have K:=u.cell 1;refine bodyPost_ret (v:=.tuple #[.agg #[.int .i64 r.1.con,.slice q r.1.pts.length c5],.int .i64 r.2]) (by simp[results,Tryz.results212,go_sem,J,K]) rfl ?_;exact d.o
theorem iT (W:World) (i kd:Int) (b:kd≠2):TAt (W.alloc (.cells #[.int .i64 1,.int .i64 kd,.int .i64 i,.int .i64 0,.slice none 0 0] 221)) (fun g=>W.heap.size<=g) (V W.heap.size) (.p 1 kd i 0 (.c 0) (.c 0)):=by
 refine⟨ptV ⟨1,kd,i,0,.c 0⟩ none 0 0,⟨fun a h=>by cases h;rfl,dl.mk_ (C9 _) (fun j u d=>?_)⟩,?_⟩
 ·rw[Dl,(Blk.new W 221 _).cell];simpa [ptV] using d
 rw[T.tr_eq];have:Is (W.alloc (.cells #[.int .i64 1,.int .i64 kd,.int .i64 i,.int .i64 0,.slice none 0 0] 221)) (fun g=>W.heap.size<=g) (Pt.tr ⟨1,kd,i,0,.c 0⟩) (ptV ⟨1,kd,i,0,.c 0⟩ none 0 0):=
  bL.2 ⟨_,0,0,rfl,C9 _,by simp[maxLen],fun _=>⟨rfl,fun a h=>by cases h⟩,fun h=>absurd h b⟩
 simpa [cat,T.pts,Tr.app_nil] using this
theorem qJ (W:World) (i kd:Int) (h:kd=0\/kd=1) (d:0<=i):Calls Tryz.prog 197 #[.agg #[.int .i64 0,.slice (V W.heap.size) 1 1]] (W.alloc (.cells #[.int .i64 1,.int .i64 kd,.int .i64 i,.int .i64 0,.slice none 0 0] 221)) (TeP (W.alloc (.cells #[.int .i64 1,.int .i64 kd,.int .i64 i,.int .i64 0,.slice none 0 0] 221)) (fun g=>W.heap.size<=g) (.p 1 kd i 0 (.c 0) (.c 0),0)):=by
 have a:=pw i kd h d;have:=eW (fun g=>W.heap.size<=g) (.p 1 kd i 0 (.c 0) (.c 0)) _ (V W.heap.size) 1 (by simp[T.pts,maxLen]) a.1 ⟨by simp[T.con],fun p b=>by rw[show T.pts (.p 1 kd i 0 (.c 0) (.c 0))=[⟨1,kd,i,0,.c 0⟩] from rfl,CZ] at b;subst b;show (1:Int).natAbs<=_;decide⟩ (by simp[T.wd,T.pts]) (iT W i kd (by omega));rw[show al (.p 1 kd i 0 (.c 0) (.c 0))=(.p 1 kd i 0 (.c 0) (.c 0),0) from by unfold al;rw[if_pos a.2.1]] at this;exact this
theorem tH (w:World) (i:Int) (v:Vl) (K J:ByteArray) (A:Option Addr) (c:Nat) (P:0<=i):
 Calls Tryz.prog 212 #[xv 2 i v K J A 0 c] w (TeP w (fun g=>w.heap.size<=g) (.p 1 0 i 0 (.c 0) (.c 0),0)):=by
  unfold xv;obtain⟨W0,j,W,y,X,F,u⟩:=pt w 26 38 221 #[.int .i64 2,.string K,.string J,.int .i64 i,.int .i64 v.k,.int .i64 v.n,.string v.s,.slice A 0 c] #[.int .i64 0,.slice none 0 0] #[.int .i64 1,.int .i64 0,.int .i64 i,.int .i64 0,.slice none 0 0];have d:=qJ W0 i 0 (.inl rfl) P;have l:W0.heap.size=w.heap.size+1+1+1:=by omega
  obtain⟨q,a⟩:∃g,g=w.heap.size+1:=⟨_,rfl⟩;rw[l,<-a] at d;have B:=bZ d;clear d;rw[<-a] at y;obtain⟨r,E⟩:∃r:T×Int,r=(.p 1 0 i 0 (.c 0) (.c 0),0):=⟨_,rfl⟩;obtain⟨D,m⟩:∃D:Nat->Prop,D=fun g=>w.heap.size<=g:=⟨_,rfl⟩;rw[<-E] at B ⊢;rw[<-m];have t:Z (w.heap.size<=q/\q<q+1+1/\w.heap.size<=W0.heap.size):=bZ (by omega);replace m:=bZ m;have yr:=bZ y;have x:=bZ F;clear E W y X F u l;go_enter Tryz.func212,Tryz.ntmps212;go_wp2_with (go_at_call 197;rw[<-j,<-a];clear j a;refine B.o.mono ?_;intro e w5 O;obtain⟨z,c5,rfl,R,S,L,Q⟩:=O;have H:=bZ (((ad.refl [] W0).alloc _).trans Q.o);have b:=bZ (yr.o.keep H.o (by simp));have xr:=b.o.cell;have Y:=b.o.frozen;have lr:=b.o.lt);have f:=bZ (aM (D:=D) (r:=r) t.o.1 (x.o.trans H.o) ⟨R,S⟩ (L.o.mono (fun g _ h=>⟨by rw[m.o];have:=t.o;omega,by have:=t.o;omega⟩)));have C:=(b.o.set_ 0 (.int .i64 r.1.con)).set_ 1 (.slice z r.1.pts.length c5);have M:=C.cell 0;have N:=C.cell 1;refine bodyPost_ret (v:=.tuple #[.agg #[.int .i64 r.1.con,.slice z r.1.pts.length c5],.int .i64 r.2]) (by simp[results,Tryz.results212,go_sem,M,N]) rfl ?_;exact f.o
theorem mn (w:World) (i i' n:Int) (v:Vl) (P O E A s:ByteArray) (g q c c':Nat) (B:Option Addr) (hs:s.size<=1000000) (hg:g<w.heap.size)
 (d:∀j u,(xc 1 i' ⟨2,n,s⟩ E A B 0 c')[j]? =some u->w.cell? (U g (q+j))=some u):
 Calls Tryz.prog 212 #[xv 9 i v P O (some (U g q)) 1 c] w (TeP w (fun g=>w.heap.size<=g) (.c (s.size:Int),0)):=by
  have t:Sm (.c (s.size:Int)):=⟨by show (s.size:Int).natAbs<=_;omega,by simp[T.pts],by simp only[T.B];omega⟩;have J:Z (∀W,Calls Tryz.prog 197 #[.agg #[.int .i64 (s.size:Int),.slice none 0 0]] W (TeP W (fun g=>W.heap.size<=g) (.c (s.size:Int),0))):=bZ (fun W=>by
   have:=iE W (fun g=>W.heap.size<=g) (s.size:Int) (by omega);rw[show al (.c (s.size:Int))=(.c (s.size:Int),0) from by unfold al;rw[if_pos t]] at this;exact this)
  have F:=d 0 _ rfl;have Q:=d 1 _ rfl;have R:=d 2 _ rfl;have S:=d 3 _ rfl;have X:=d 4 _ rfl;have Y:=d 5 _ rfl;have x6:=d 6 _ rfl;have x7:=d 7 _ rfl;rw[Fg] at F;unfold xv;obtain⟨W0,a,t1,C,t3,b,y⟩:=pt w 26 38 221 #[.int .i64 9,.string P,.string O,.int .i64 i,.int .i64 v.k,.int .i64 v.n,.string v.s,.slice (some (U g q)) 1 c] #[.int .i64 0,.slice none 0 0] #[.int .i64 1,.int .i64 0,.int .i64 i,.int .i64 0,.slice none 0 0];obtain⟨L,m⟩:∃g,g=w.heap.size+1:=⟨_,rfl⟩;rw[<-m] at C;obtain⟨r,M⟩:∃r:T×Int,r=(.c (s.size:Int),0):=⟨_,rfl⟩;obtain⟨D,x⟩:∃D:Nat->Prop,D=fun g=>w.heap.size<=g:=⟨_,rfl⟩;rw[<-M] at J ⊢;rw[<-x];have l:Z (w.heap.size<=L/\L<W0.heap.size/\w.heap.size<=W0.heap.size):=bZ (by omega);replace x:=bZ x;have yr:=bZ C;have z:=bZ b;have y0:=b.cellEq F (by simp);rw[a] at y0;have y1:=b.cellEq Q (by simp);rw[a] at y1;have y2:=b.cellEq R (by simp);rw[a] at y2;have y3:=b.cellEq S (by simp);rw[a] at y3;have y4:=b.cellEq X (by simp);rw[a] at y4;have y5:=b.cellEq Y (by simp);rw[a] at y5;have y6:=b.cellEq x6 (by simp);rw[a] at y6;have y7:=b.cellEq x7 (by simp);rw[a] at y7;have a0:g<w.heap.size+1:=by omega
  have a1:g<w.heap.size+1+1:=by omega
  have a2:g<w.heap.size+1+1+1:=by omega
  clear M t1 C t3 b y d hs t F Q R S X Y x6 x7;go_enter Tryz.func212,Tryz.ntmps212;go_wp2_with (go_at_call 197;rw[<-a,<-m];clear a m;refine(J.o _).mono ?_;intro e w5 h5;obtain⟨H,c5,rfl,m5,n5,T5,k5⟩:=h5;have N:=bZ (((ad.refl [] W0).alloc _).trans k5.o);have f:=bZ (yr.o.keep N.o (by simp));have xr:=f.o.cell;have a3:=f.o.frozen;have lr:=f.o.lt);have p:=bZ (aM (D:=D) (r:=r) l.o.1 (z.o.trans N.o) ⟨m5,n5⟩ (T5.o.mono (fun g _ h=>⟨by rw[x.o];have:=l.o;simp at h;omega,by have:=l.o;simp at h;omega⟩)));have K:=(f.o.set_ 0 (.int .i64 r.1.con)).set_ 1 (.slice H r.1.pts.length c5);have d0:=K.cell 0;have d1:=K.cell 1;refine bodyPost_ret (v:=.tuple #[.agg #[.int .i64 r.1.con,.slice H r.1.pts.length c5],.int .i64 r.2]) (by simp[results,Tryz.results212,go_sem,d0,d1]) rfl ?_;exact p.o
theorem mo (w:World) (i i' n k':Int) (v:Vl) (tb nm m l s:ByteArray) (g F c J:Nat) (B:Option Addr) (hi:0<=i') (hg:g<w.heap.size)
 (x:∀j u,(xc 2 i' ⟨k',n,s⟩ m l B 0 J)[j]? =some u->w.cell? (U g (F+j))=some u):
 Calls Tryz.prog 212 #[xv 9 i v tb nm (some (U g F)) 1 c] w (TeP w (fun g=>w.heap.size<=g) (.p 1 1 i' 0 (.c 0) (.c 0),0)):=by
  have x0:=x 0 _ rfl;have x1:=x 1 _ rfl;have x2:=x 2 _ rfl;have x3:=x 3 _ rfl;have x4:=x 4 _ rfl;have x5:=x 5 _ rfl;have x6:=x 6 _ rfl;have x7:=x 7 _ rfl;rw[Fg] at x0;unfold xv;obtain⟨W0,b,t1,t2,t3,q,a1⟩:=pt w 26 38 221 #[.int .i64 9,.string tb,.string nm,.int .i64 i,.int .i64 v.k,.int .i64 v.n,.string v.s,.slice (some (U g F)) 1 c] #[.int .i64 0,.slice none 0 0] #[.int .i64 1,.int .i64 0,.int .i64 i,.int .i64 0,.slice none 0 0];obtain⟨N,C⟩:∃g,g=w.heap.size+1:=⟨_,rfl⟩;rw[<-C] at t2;obtain⟨r,Y⟩:∃r:T×Int,r=(.p 1 1 i' 0 (.c 0) (.c 0),0):=⟨_,rfl⟩;obtain⟨D,X⟩:∃D:Nat->Prop,D=fun g=>w.heap.size<=g:=⟨_,rfl⟩;rw[<-Y];rw[<-X];have a0:Z (w.heap.size<=N/\N<W0.heap.size/\w.heap.size<=W0.heap.size):=bZ (by omega);replace X:=bZ X;have yr:=bZ t2;have R:=bZ q;have y0:=q.cellEq x0 (by simp);rw[b] at y0;have y1:=q.cellEq x1 (by simp);rw[b] at y1;have y2:=q.cellEq x2 (by simp);rw[b] at y2;have y3:=q.cellEq x3 (by simp);rw[b] at y3;have y4:=q.cellEq x4 (by simp);rw[b] at y4;have y5:=q.cellEq x5 (by simp);rw[b] at y5;have y6:=q.cellEq x6 (by simp);rw[b] at y6;have y7:=q.cellEq x7 (by simp);rw[b] at y7;have a2:g<w.heap.size+1:=by omega
  have a3:g<w.heap.size+1+1:=by omega
  have a4:g<w.heap.size+1+1+1:=by omega
  clear t1 t2 q x x0 x1 x2 x3 x4 x5 x6 x7;go_enter Tryz.func212,Tryz.ntmps212;go_wp2_with fail;rw[<-b];obtain⟨a,A⟩:∃g,g=w.heap.size+1+1:=⟨_,rfl⟩;obtain⟨z,O⟩:∃g,g=w.heap.size+1+1+1:=⟨_,rfl⟩;rw[<-O,<-A,<-C];rw[<-A] at t3;have P:W0.heap.size=z:=by omega
  have W:=Blk.new W0 26 #[.int .i64 2,.string m,.string l,.int .i64 i',.int .i64 k',.int .i64 n,.string s,.slice B 0 J];rw[P] at W;have H:=t3.alloc (.cells #[.int .i64 2,.string m,.string l,.int .i64 i',.int .i64 k',.int .i64 n,.string s,.slice B 0 J] 26);have br:=yr.o.alloc (.cells #[.int .i64 2,.string m,.string l,.int .i64 i',.int .i64 k',.int .i64 n,.string s,.slice B 0 J] 26);have k1:=(R.o).alloc (.cells #[.int .i64 2,.string m,.string l,.int .i64 i',.int .i64 k',.int .i64 n,.string s,.slice B 0 J] 26);generalize W0.alloc (.cells #[.int .i64 2,.string m,.string l,.int .i64 i',.int .i64 k',.int .i64 n,.string s,.slice B 0 J] 26)=W1 at*;have f:Z (a≠z/\N≠a/\N≠z/\w.heap.size<=a/\w.heap.size<=N):=bZ (by omega);have e3:W1.drew.cell? (U z 3)=some (.int .i64 i'):=W.drew.cell 3;have p1:W1.cell? (U a 1)=some (.int .i64 0):=H.cell 1;have a5:W1.frozen? (U a 1)=false:=H.frozen 1;have M:=bZ (H.set_ 1 (.int .i64 1));have Q:Z ((W1.setCell (U a 1) (.int .i64 1)).cell? (U z 3)=some (.int .i64 i')):=bZ ((W.far (p:=(U a 1)) (fun h=>f.o.1 h.symm) (.int .i64 1)).cell 3);have p2:W1.cell? (U a 2)=some (.int .i64 i):=H.cell 2;have a6:W1.frozen? (U a 2)=false:=H.frozen 2;have d:=bZ (M.o.set_ 2 (.int .i64 i'));have t:=bZ ((br.far (p:=(U a 1)) (fun h=>f.o.2.1 h) (.int .i64 1)).far (p:=(U a 2)) (fun h=>f.o.2.1 h) (.int .i64 i'));have k2:=bZ ((k1.setCell (p:=(U a 1)) (.inr f.o.2.2.2.1) (.int .i64 1)).setCell (p:=(U a 2)) (.inr f.o.2.2.2.1) (.int .i64 i'));replace Y:=bZ Y;clear b y0 y1 y2 y3 y4 y5 y6 y7 a2 a3 a4 t3 W H br k1 P yr R A O C a1 a0;refine ae (S:=(fun w'=>w'.cell? (U z 3)=some (.int .i64 i'))) (n:=4) (by kernel_rfl) ?_;have L:(fun w':World=>w'.cell? (U z 3)=some (.int .i64 i')) W1.drew:=e3;dsimp only at L;clear e3;refine ord [0,1,2] ?_
  iterate 3 (refine tq L ?_;try simp only[PT,Y1,Y2,Y3])
  refine aB ?_;refine J1 3 fun K hK=>?_;dsimp only[Y1,Y2,Y3];go_simp;replace L:(W1.setCell (U a 1) (.int .i64 1)).drew.cell? (U z 3)=some (.int .i64 i'):=Q.o;refine hK _ _ (.inr L) ?_;clear hK K
  try simp only[PT,Y1,Y2,Y3]
  refine JQ 4 ?_
  try simp only[PT,Y1,Y2,Y3]
  refine JQ 5 ?_
  try simp only[PT,Y1,Y2,Y3]
  refine JD ?_;replace d:=bZ d.o.drew;replace t:=bZ t.o.drew;replace k2:=bZ k2.o.drew;generalize ((W1.setCell (U a 1) (.int .i64 1)).setCell (U a 2) (.int .i64 i')).drew=W2 at*;have HC:=bZ (qJ W2 i' 1 (.inr rfl) hi);rw[<-Y.o] at HC;obtain⟨q0,q1,q2,q3,q4⟩:W2.cell? (U a 0)=some (.int .i64 1)/\W2.cell? (U a 1)=some (.int .i64 1)/\W2.cell? (U a 2)=some (.int .i64 i')/\W2.cell? (U a 3)=some (.int .i64 0)/\W2.cell? (U a 4)=G none 0 0:=⟨d.o.cell 0,d.o.cell 1,d.o.cell 2,d.o.cell 3,d.o.cell 4⟩;clear p1 a5 p2 a6 L Q M;go_wp2_with (go_at_call 197;refine HC.o.mono ?_;intro e w5 h5;obtain⟨A5,c5,rfl,m5,n5,T5,k5⟩:=h5;have k6:=bZ (((ad.refl [] W2).alloc _).trans k5.o);have y:=bZ (t.o.keep k6.o (by simp));have xr:=y.o.cell;have aa:=y.o.frozen;have lr:=y.o.lt);have a9:=k2.o.size;have E:=bZ (aM (D:=D) (r:=r) f.o.2.2.2.2 (k2.o.trans k6.o) ⟨m5,n5⟩ (T5.o.mono (fun g _ h=>⟨by rw[X.o];omega,by have:=t.o.lt;omega⟩)));have bf:=(y.o.set_ 0 (.int .i64 r.1.con)).set_ 1 (.slice A5 r.1.pts.length c5);have d0:=bf.cell 0;have d1:=bf.cell 1;refine bodyPost_ret (v:=.tuple #[.agg #[.int .i64 r.1.con,.slice A5 r.1.pts.length c5],.int .i64 r.2]) (by simp[results,Tryz.results212,go_sem,d0,d1]) rfl ?_;exact E.o
def E.lf:E->Bool
 | .z o _ _=>decide (o=1) || decide (o=2)
 | .a o _ _ x=>decide (o=9) && x.leaf
 | _=>false
theorem vO (C:Nat->Prop) (l:List Vb) (e:E) (w:World) (y q:ByteArray) (A:Option Addr) (n c:Nat) (f:e.lf=true) (K:e.rg) (d:e.int l=true) (J:e.null=false) (N:aY w C e A n):
 Calls Tryz.prog 212 #[exV e y q A n c] w (TeP w (fun g=>w.heap.size<=g) (ofE e)):=by
  cases e with
  | z o i v=>
   obtain⟨rfl,_⟩:=N;simp only[E.lf,Bool.or_eq_true,decide_eq_true_eq] at f;rcases f with rfl | rfl
   ·have F:v.k=1:=by
     simp only[E.int,if_true,Bool.and_eq_true,decide_eq_true_eq] at d;simp only[E.null,decide_true,Bool.true_and,decide_eq_false_iff_not] at J;omega
    have:=tG w i v.n v.s y q A c K.1;rw[show ofE (.z 1 i v)=al (.c v.n) by simp[ofE]];unfold xv at this;unfold exV;simp only[opz,ixz,ltz];rw[F];exact this
   have H:0<=i:=by
    simp only[E.int,show (2:Int)≠1 by decide,if_false,if_true] at d;exact(cM d).1
   exact tH w i v y q A c H
  | a o i v x=>
   simp only[E.lf,Bool.and_eq_true,decide_eq_true_eq] at f;obtain⟨rfl,L⟩:=f;cases x with
   | z p j u=>
    obtain⟨rfl,g,t,D,r,B,m,M,rfl,hC,P,X,Y,W,O⟩:=N.one;obtain⟨rfl,_⟩:=W;have R:(E.z p j u).text l=true/\(decide (p=2) || vOk u)=true:=by
     simp only[E.null,Bool.or_eq_false_iff] at J;unfold E.int at d;simp only[if_true,Bool.or_eq_true,Bool.and_eq_true,decide_eq_true_eq] at d ⊢;rcases d with d | ⟨S,T,_⟩
     ·exact d
     have:=J.2;simp[S,T] at this
    have h:(if p=2 then aK l j 2 else decide (p=1) && decide (u.k=2))=true:=R.1;by_cases Q:p=2
    ·subst Q;rw[if_pos rfl] at h;have H:0<=j:=(cM h).1;exact mo w i j u.n u.k v y q D r u.s g t c M B H P O
    rw[if_neg Q] at h;simp only[Bool.and_eq_true,decide_eq_true_eq] at h;obtain⟨rfl,F⟩:=h;have hs:u.s.size<=16:=by
     have:=R.2;simp only[show (1:Int)≠2 by decide,decide_false,Bool.false_or] at this;rw[qe F] at this;simp only[Bool.and_eq_true,decide_eq_true_eq] at this;exact this.2.2
    have:=mn w i j u.n v y q D r u.s g t c M B (by omega) P (by
     have:=O;simp only[opz,ixz,ltz] at this;rw[show u=⟨2,u.n,u.s⟩ from by rw[<-F]] at this;exact this)
    exact this
   | a _ _ _ _=>cases L
   | b _ _ _ _ _=>cases L
   | many _ _ _=>cases L
  | b _ _ _ _ _=>cases f
  | many _ _ _=>cases f
theorem dX (w:World) (a b:TypeId) (c1 c2:Array Value):∃W,W=(w.alloc (.cells c1 a)).alloc (.cells c2 b)/\Blk W w.heap.size a c1/\Blk W (w.heap.size+1) b c2/\ad [] w W/\W.heap.size=w.heap.size+2:=by
 have c:=Blk.new (w.alloc (.cells c1 a)) b c2;rw[show (w.alloc (.cells c1 a)).heap.size=w.heap.size+1 by simp] at c;exact⟨_,rfl,(Blk.new w a c1).alloc _,c,((ad.refl [] w).alloc _).alloc _,by simp⟩
theorem pi (w:World) (e:E) (x t:ByteArray) (A:Option Addr) (n c:Nat) (r:T×Int) (M:e.op=1\/e.op=2\/e.op=9)
 (z:Z (∀W,ad [] w W->Calls Tryz.prog 212 #[exV e x t A n c] W (TeP W (fun g=>W.heap.size<=g) r))):Calls Tryz.prog 182 #[exV e x t A n c] w (TeP w (fun g=>w.heap.size<=g) r):=by
  obtain⟨W0,b,P,u,p,m⟩:=dX w 26 38 (exC e x t A n c) #[.int .i64 0,.slice none 0 0];obtain⟨C,d⟩:∃g,g=w.heap.size+1:=⟨_,rfl⟩;rw[<-d] at u;obtain⟨D,j⟩:∃D:Nat->Prop,D=fun g=>w.heap.size<=g:=⟨_,rfl⟩;rw[<-j];have l:Z (w.heap.size<=C/\C<W0.heap.size/\w.heap.size<=W0.heap.size):=bZ (by omega);have i:=bZ (z.o W0 p);replace j:=bZ j;have R:=bZ u;have q:=bZ p;unfold exV at i ⊢;unfold exC at b;clear P u p m z;generalize e.ix=ix at*;generalize e.lit.k=vk at*;generalize e.lit.n=vn at*;generalize e.lit.s=vs at*;generalize e.op=o at*;rcases M with rfl | rfl | rfl
  all_goals
   go_enter Tryz.func182,Tryz.ntmps182;go_wp2_with (go_at_call 212;rw[<-b,<-d];clear b d;refine i.o.mono ?_;intro e X L;obtain⟨y,c5,rfl,N,O,H,F⟩:=L;have a:=bZ (R.o.keep F.o (by simp));have Y:=a.o.cell;have Q:=a.o.frozen;have S:=a.o.lt);have f:=bZ (aM (D:=D) (r:=r) l.o.1 (q.o.trans F.o) ⟨N,O⟩ (H.o.mono (fun g _ h=>⟨by rw[j.o];have:=l.o;omega,by have:=l.o;omega⟩)));have B:=(a.o.set_ 0 (.int .i64 r.1.con)).set_ 1 (.slice y r.1.pts.length c5);have J:=B.cell 0;have K:=B.cell 1;refine bodyPost_ret (v:=.tuple #[.agg #[.int .i64 r.1.con,.slice y r.1.pts.length c5],.int .i64 r.2]) (by simp[results,Tryz.results182,go_sem,J,K]) rfl ?_;exact f.o
end Go.Proofs.YtldmkbhgdbafhaaGreat
