import Derived.Test.YtldmkbhgdbafhaaGreatL12
namespace Go.Proofs.YtldmkbhgdbafhaaGreat
open Go.RowKit
set_option linter.unusedSimpArgs false
set_option linter.unusedVariables false
set_option maxRecDepth 100000
set_option maxHeartbeats 64000000
section
theorem aM {w wz:World} {g:Nat} {D:Nat->Prop} {r:T×Int} {A:Option Addr} {c:Nat} (f:w.heap.size<=g) (i:ad [] w wz) (a:r.1.pts.length<=c/\c<=maxLen) (e:TAt wz (fun x=>D x/\x≠g) A r.1):
 TeP w D r (.returned (.tuple #[.agg #[I r.1.con,.slice A r.1.pts.length c],I r.2])) ((wz.setCell (U g 0) (I r.1.con)).setCell (U g 1) (.slice A r.1.pts.length c)):=by
  have d:=((ad.refl [g] wz).setCell (p:=(U g 0)) (.inl (by simp)) (I r.1.con)).setCell (p:=(U g 1)) (.inl (by simp)) (.slice A r.1.pts.length c);exact⟨A,c,rfl,a.1,a.2,bZ ((e.keep d (fun y b a=>by rw[CZ.1 b] at a;exact a.2 rfl)).mono (fun _ _ h=>h.1)),bZ ((i.nil.trans d).mono (fun y b=>.inr (by rw[CZ.1 b];exact f)))⟩
theorem eO {w wz:World} {g:Nat} {D:Nat->Prop} (k:Int) (b:w.heap.size<=g) (d:ad [] w wz):
 TeP w D (.c 0,k) (.returned (.tuple #[.agg #[I 0,.slice none 0 0],I k])) ((wz.setCell (U g 0) (I 0)).setCell (U g 1) (.slice none 0 0)):=
 aM (r:=(.c 0,k)) b d ⟨C9 _,by simp[maxLen]⟩ (bH _ _ _ _ (fun a h=>by cases h))
theorem ch {w a:World} {D:Nat->Prop} {r:T×Int} {e:Ending} (h:TeP w D r e a) (o:Obj):TeP w D r e (a.alloc o):=by
 obtain⟨A,c,b,d,f,g,i⟩:=h;exact⟨A,c,b,d,f,bZ (g.o.keep0 ((ad.refl [] a).alloc o)),bZ (i.o.alloc o)⟩
theorem vP {w:World} {C:Nat->Prop} {b e:List Pt} {p:Pt} {m:Int} {cs:List Value} (h:Is w C (cat Pt.tr (b++p::e)) cs):Is w C (cat Pt.tr (b++p.wn m::e)) (cs.set (b.length*5) (I m)):=by
 rw[eX] at h ⊢;obtain⟨j,s,rfl,c,k⟩:=h.cut;obtain⟨t,u,rfl,l,n⟩:=Is.cut (a:=p.tr) k;obtain⟨f,i,g,rfl,o,q,r⟩:=bL.1 l;have d:j.length=b.length*5:=by rw[c.len,bF Pt.tr_len]
 rw[EL _ _ (by rw[d];exact C9 _),d,Ez];exact c.app (Is.app (a:=(p.wn m).tr) (cs:=ptV (p.wn m) f i g) (bL.2 ⟨f,i,g,rfl,o,q,r⟩) n)
structure oL (w W0:World) (k:Int) (t:T) (n:Nat) (a:Int) (A:Option Addr) (c:Nat) (A1:Option Addr) (c1 gt gr gO j:Nat) (cs:List Value) (wr:World):Prop where
 bo:Blk wr gO 38 #[I (a*k),.slice A1 n c1]
 own:wr.ownsRow W0.heap.size 221 5 (.slice A1 n c1) n cs
 is_:Is wr (fun g=>W0.heap.size<=g/\(Value.slice A1 n c1).ownBlock≠some g) (cat Pt.tr ((dM k t.pts).take j++t.pts.drop j)) cs
 bt:Blk wr gt 38 #[I a,.slice A n c]
 br:Blk wr gr 38 #[I 0,.slice none 0 0]
 kp:ad [] w wr
 co:∀p∈(dM k t.pts).take j,p.n.natAbs<=1048576
 gs:w.heap.size<=gt/\w.heap.size<=gr/\gr<W0.heap.size/\gt<W0.heap.size/\W0.heap.size<=gO
section
variable {w W0:World} {k:Int} {t:T} {n:Nat} {a:Int} {A:Option Addr} {c:Nat} {A1:Option Addr} {c1 gt gr gO j:Nat} {cs:List Value} {wr W:World}
theorem oL.keep (h:oL w W0 k t n a A c A1 c1 gt gr gO j cs wr) (b:ad [] wr W):oL w W0 k t n a A c A1 c1 gt gr gO j cs W:=
 ⟨h.bo.keep b (by simp),aW h.own b,h.is_.keep b (by simp),h.bt.keep b (by simp),h.br.keep b (by simp),h.kp.trans b,h.co,h.gs⟩
theorem oL.step {b:Nat} (h:oL w W0 k t n a A c (V b) c1 gt gr gO j cs wr) {p:Pt} (i:t.pts[j]? =some p) (x:(p.n*k).natAbs<=1048576):
 oL w W0 k t n a A c (V b) c1 gt gr gO (j+1) (cs.set (j*5) (I (p.n*k))) (wr.setCell (U b (j*5)) (I (p.n*k))):=by
  have u:=h.gs;have C:=(cz h.own (g:=b) rfl).1;have z:b≠gO:=by obtain⟨_,s,v⟩:=jy h.own (g:=b) rfl;exact v.ne_ h.bo (by decide)
  have f:ad [b] wr (wr.setCell (U b (j*5)) (I (p.n*k))):=(ad.refl [b] wr).setCell (.inl (by simp)) _;have e:(dM k t.pts).take (j+1)=(dM k t.pts).take j++[p.wn (p.n*k)]:=cN (ig i);refine⟨h.bo.keep f (by simp;omega),(h.own.stored _ _).1,?_,h.bt.keep f (by simp;omega),h.br.keep f (by simp;omega),h.kp.setCell (.inr (by show w.heap.size<=b;omega)) _,?_,u⟩
  ·have l:=h.is_;rw[cW i] at l;have o:=vP (m:=p.n*k) l;rw[CY,dJ,Es (by have:=(CV.1 i).1;omega)] at o;rw[e,Dd];refine o.keep f (fun y B r=>?_);rw[CZ.1 B] at r;exact r.2 rfl
  intro q d;rw[e] at d;rcases CX.1 d with d | d
  ·exact h.co q d
  rw[CZ.1 d];exact x
end
theorem fq (C:Nat->Prop) (t:T) (k:Int) (w:World) (A:Option Addr) (c:Nat) (X:Nm t) (hk:k.natAbs<=1099511627776) (aa:t.wd<=1000000) (hT:TAt w C A t):
 Calls Tryz.prog 155 #[tmV t A c,I k] w (TeP w (fun g=>w.heap.size<=g) (al (az t k))):=by
  obtain⟨n,hn⟩:∃n,n=t.pts.length:=⟨_,rfl⟩;obtain⟨a,ha⟩:∃a,a=t.con:=⟨_,rfl⟩;have an:=aA aa;unfold tmV;rw[<-hn,<-ha];rw[<-hn] at an;obtain⟨W0,m⟩:∃W0,W0=(w.alloc (.cells #[I a,.slice A n c] 38)).alloc (.cells #[I 0,.slice none 0 0] 38):=⟨_,rfl⟩;obtain⟨gt,L⟩:∃g,g=w.heap.size:=⟨_,rfl⟩;obtain⟨gr,K⟩:∃g,g=w.heap.size+1:=⟨_,rfl⟩;obtain⟨P,H,t3⟩:=aX w 38 #[I a,.slice A n c] #[I 0,.slice none 0 0];rw[<-m,<-K] at H;rw[<-m,<-L] at P;rw[<-m] at t3;have hg:Z (w.heap.size<=gt/\w.heap.size<=gr/\gt≠gr/\gr<W0.heap.size/\gt<W0.heap.size):=bZ ⟨by omega,by omega,by omega,H.lt,P.lt⟩;obtain⟨r,hr⟩:∃r,r=al (az t k):=⟨_,rfl⟩;obtain⟨D,hD⟩:∃D:Nat->Prop,D=fun g=>w.heap.size<=g:=⟨_,rfl⟩;rw[<-hr,<-hD];have s:=bZ hn;have a3:=bZ ha;have ap:Z (a.natAbs<=1099511627776):=bZ (by rw[ha];exact X.2.1.1);have b1:=bZ X.2.1.2.1;have aq:=bZ X.1;have O:=bZ aa;replace hr:=bZ hr;replace hT:=bZ hT;replace hD:=bZ hD;clear hn ha X aa;by_cases h0:k=0
  ·have z:r=(.c 0,0):=by rw[hr.o,h0];unfold az;rw[if_pos rfl];rfl
   subst z h0;have z0:=H.cell 0;have z1:=H.cell 1;have d:Z (TeP w D (.c 0,0) (.returned (.tuple #[.agg #[I 0,.slice none 0 0],I 0])) W0):=bZ ⟨none,0,rfl,C9 _,by simp[maxLen],bZ (bH _ _ _ _ (fun a h=>by cases h)),bZ t3⟩;replace P:=bZ P;replace H:=bZ H;go_enter Tryz.func155,Tryz.ntmps155;go_wp2_with fail;rw[<-m,<-K,<-L];refine bodyPost_ret (v:=.tuple #[.agg #[I 0,.slice none 0 0],I 0]) (by simp[results,Tryz.results155,go_sem,z0,z1]) rfl ?_;exact d.o
  have bk:(k==0)=false:=beq_false_of_ne h0;have HA:=bZ jl;have ak: -9223372036854775808<=a/\a<9223372036854775808:=by have:=ap.o;omega
  have R: -9223372036854775808<=k/\k<9223372036854775808:=by omega
  have HT:=bZ (fun W=>jS W a.natAbs k.natAbs (by have:=ap.o;omega) (by omega));have a4:=bZ (fun W (hW:ad [] w W)=>kE C t W A c aq.o (aA O.o) O.o (hT.o.keep0 hW));unfold tmV kK at a4;rw[<-s.o,<-a3.o] at a4;have a9:Z (a.natAbs*k.natAbs=(a*k).natAbs):=bZ (Int.natAbs_mul a k).symm;replace P:=bZ P;replace H:=bZ H;by_cases B:a.natAbs*k.natAbs<=1099511627776
  ·have F:sat (a.natAbs*k.natAbs)=a.natAbs*k.natAbs:=by unfold sat;rw[if_pos (by omega)]
   rw[F] at HT;have bu:IntKind.i64.wrap (a*k)=a*k:=C0 _ (by have:=a9.o;omega);have bb:((a.natAbs:Int)*(k.natAbs:Int))<=1099511627776:=by rw[<-Int.natCast_mul];omega
   have am:Z ((a*k).natAbs<=1099511627776):=bZ (by rw[<-a9.o];exact B);have M:Z (az t k=.mk (dM k t.pts) (a*k)):=bZ (by unfold az;rw[if_neg h0,<-a3.o]);clear B F;replace h0:=bZ h0;go_enter Tryz.func155,Tryz.ntmps155;go_wp2_with (first | (go_at_call 195;refine(HA.o _ _ (by first | exact ak | exact R)).mono ?_;rintro e w' ⟨rfl,rfl⟩) | (go_at_call 194;refine(HT.o _).mono ?_;rintro e w' ⟨rfl,rfl⟩) | (go_at_call 196;refine(a4.o _ (by rw[<-m];exact t3)).mono ?_;rintro e w1 ⟨A1,c1,ab,rfl,m1,m2,o1,i1,k1⟩;rw[<-m] at o1 i1 k1;have z0:w1.cell? (U gt 0)=some (I a):=(P.o.keep k1.o (by simp)).cell 0;have z1:w1.cell? (U gt 1)=G A n c:=(P.o.keep k1.o (by simp)).cell 1;have b6:gt<w1.heap.size:=(P.o.keep k1.o (by simp)).lt;rw[<-K,<-L];clear K L m));obtain⟨gO,a5⟩:∃g,g=w1.heap.size:=⟨_,rfl⟩;obtain⟨W1,Q⟩:∃x,x=w1.alloc (.cells #[I (a*k),.slice A1 n c1] 38):=⟨_,rfl⟩;have kW:ad [] w1 W1:=by rw[Q];exact(ad.refl [] w1).alloc _
   have bO:Blk W1 gO 38 #[I (a*k),.slice A1 n c1]:=by rw[Q,a5];exact Blk.new w1 38 _
   rw[<-Q,<-a5];have au:Z (oL w W0 k t n a A c A1 c1 gt gr gO 0 ab W1):=bZ ⟨bO,aW o1.o kW,by rw[T.tr_eq] at i1;simpa using i1.o.keep kW (by simp),(P.o.keep k1.o (by simp)).keep kW (by simp),(H.o.keep k1.o (by simp)).keep kW (by simp),(t3.trans k1.o).trans kW,by simp,⟨hg.o.1,hg.o.2.1,hg.o.2.2.2.1,hg.o.2.2.2.2,by have:=k1.o.size;omega⟩⟩;clear Q a5 kW bO z0 z1 o1 i1 k1 P H t3 b6 HT;have av:=bZ (fun W (x:Int) (hx:x.natAbs<=1048576)=>jS W x.natAbs k.natAbs (by omega) (by omega));go_loopw [30] (fun i wr=>∃(j:Nat) (cs:List Value),j<=n/\i=I j/\Z (oL w W0 k t n a A c A1 c1 gt gr gO j cs wr)) (fun i _=>n - (intOf i).toNat)
   case atStart=>exact⟨0,ab,C3 _,rfl,au⟩
   obtain⟨j,cs,hj,rfl,f⟩:=hrel;obtain⟨E,b5⟩:∃x,x=wr:=⟨_,rfl⟩;subst b5;clear au;by_cases b0:j<n
   ·obtain⟨p,Y⟩:=aI (l:=t.pts) (j:=j) (by rw[<-s.o];exact b0);obtain⟨gx,bt,oX,a1,a0,rfl,ba,bc,x0,x1,x2,x3,x4,bm,bn,b8⟩:=hT.o.get Y;obtain⟨gA,rfl⟩:=dW f.o.own (by omega);have c0:=f.o.kp.cellEq x0 (by simp);have b9:=f.o.kp.cellEq x1 (by simp);have c2:=f.o.kp.cellEq x2 (by simp);have c3:=f.o.kp.cellEq x3 (by simp);have c4:=f.o.kp.cellEq x4 (by simp);have b7:gx<E.heap.size:=block_lt_of_cell c0;have a6:=CW Y;have b3:=b1.o p a6;have ar: -9223372036854775808<=p.n/\p.n<9223372036854775808:=by omega
    have bd:(j:Int)<(n:Int):=by omega
    have wj:IntKind.i64.wrap ((j:Int)+1)=(j:Int)+1:=C0 _ (by omega);have a2:=bZ (fun W=>av.o W p.n b3);have N:p.n.natAbs*k.natAbs=(p.n*k).natAbs:=(Int.natAbs_mul p.n k).symm;have hX:=bZ (f.o.keep ((ad.refl [] E).alloc (.cells #[I p.n,I p.kd,I p.v,I p.b,.slice oX a1 a0] 221)));replace Y:=bZ Y;by_cases hs:p.n.natAbs*k.natAbs<=1048576
    ·have F:sat (p.n.natAbs*k.natAbs)=p.n.natAbs*k.natAbs:=by unfold sat;rw[if_pos (by omega)]
     have b4:((p.n.natAbs:Int)*(k.natAbs:Int))<=1048576:=by rw[<-Int.natCast_mul];omega
     have bx:IntKind.i64.wrap (p.n*k)=p.n*k:=C0 _ (by omega);rw[F] at a2;have b2:Z ((p.n*k).natAbs<=1048576):=bZ (by omega);have o1:E.cell? (U gO 1)=G (V gA) n c1:=f.o.bo.cell 1;have bq:gO<E.heap.size:=f.o.bo.lt;have bp:gA<E.heap.size:=(cz f.o.own rfl).2;obtain⟨u,hu⟩:∃u,E.cell? (U gA (j*5))=some u:=by rw[f.o.own.cellAt _ (by omega)];exact aI (by have:=f.o.own.1;omega)
     have yf:E.frozen? (U gA (j*5))=false:=f.o.own.frozenAt _;have hR:=bZ ((f.o.step Y.o b2.o).keep ((ad.refl [] _).alloc (.cells #[I p.n,I p.kd,I p.v,I p.b,.slice oX a1 a0] 221)));clear hs F N a6;go_wp2_with (first | (go_at_call 195;refine(HA.o _ _ (by first | exact ar | exact R)).mono ?_;rintro e w' ⟨rfl,rfl⟩) | (go_at_call 194;refine(a2.o _).mono ?_;rintro e w' ⟨rfl,rfl⟩));go_roundw
     case rel=>exact⟨j+1,_,by omega,by go_num,hR⟩
     case measure=>simp[intOf];omega
    have b4:(1048576:Int)<(sat (p.n.natAbs*k.natAbs):Nat):=by unfold sat;split<;>omega
    have z:r=(.c 0,3):=by
     rw[hr.o,M.o];unfold al;rw[if_neg (fun h=>hs (by have:=h.2.1 (p.wn (p.n*k)) (by rw[T.mk_pts];exact CW (ig Y.o));rw[N];exact this))]
    replace z:=bZ z;have d:=bZ (ch (eO (D:=D) 3 f.o.gs.2.1 f.o.kp) (.cells #[I p.n,I p.kd,I p.v,I p.b,.slice oX a1 a0] 221));have bf:=((f.o.br.set_ 0 (I 0)).set_ 1 (.slice none 0 0)).alloc (.cells #[I p.n,I p.kd,I p.v,I p.b,.slice oX a1 a0] 221);have d0:=bf.cell 0;have d1:=bf.cell 1;have y:=hX.o.br.cell;have yf:=hX.o.br.frozen;have y':=f.o.br.cell;have bz:=f.o.br.frozen;have bs:gr<E.heap.size:=f.o.br.lt;clear hs N a6 bf;generalize sat (p.n.natAbs*k.natAbs)=S at*;go_wp2_with (first | (go_at_call 195;refine(HA.o _ _ (by first | exact ar | exact R)).mono ?_;rintro e w' ⟨rfl,rfl⟩) | (go_at_call 194;refine(a2.o _).mono ?_;rintro e w' ⟨rfl,rfl⟩));refine bodyPost_ret (v:=.tuple #[.agg #[I 0,.slice none 0 0],I 3]) (by simp[results,Tryz.results155,go_sem,d0,d1]) rfl ?_;rw[z.o];exact d.o
   obtain rfl:j=n:=by omega
   have J:(dM k t.pts).take j++t.pts.drop j=dM k t.pts:=by rw[C6 (by rw[dJ,<-s.o];exact C9 _),DB (by rw[<-s.o];exact C9 _),DA]
   have ac:TAt E (fun g=>W0.heap.size<=g) A1 (az t k):=⟨cs,dq f.o.own,by rw[M.o,T.tr_eq,T.mk_pts,<-J];exact f.o.is_.mono (fun _ _ h=>h.1)⟩;have ao:Md (az t k):=by
    rw[M.o];refine⟨by rw[T.mk_con];have:=am.o;omega,fun p Y=>?_⟩;rw[T.mk_pts,<-C6 (i:=j) (l:=dM k t.pts) (by rw[dJ,<-s.o];exact C9 _)] at Y;have:=f.o.co p Y;omega
   have CK:Z (Calls Tryz.prog 197 #[.agg #[I (a*k),.slice A1 j c1]] E (TeP E (fun g=>W0.heap.size<=g) r)):=bZ (by
    have:=eW (fun g=>W0.heap.size<=g) (az t k) E A1 c1 (by rw[M.o,T.mk_pts,dJ,<-s.o];exact⟨m1,m2⟩) (cg aq.o) ao (ce O.o) ac;unfold tmV at this;rw[<-hr.o,M.o,T.mk_pts,dJ,T.mk_con,<-s.o] at this;exact this)
   have o0:E.cell? (U gO 0)=some (I (a*k)):=f.o.bo.cell 0;have o1:E.cell? (U gO 1)=G A1 j c1:=f.o.bo.cell 1;clear ac ao J;go_wp2_with (go_at_call 197;refine CK.o.mono ?_;rintro e w5 ⟨A5,c5,rfl,m3,m4,ax,k5⟩;have q:=bZ (f.o.keep k5.o);have y:=q.o.br.cell;have yf:=q.o.br.frozen);have d:=bZ (aM (D:=D) q.o.gs.2.1 q.o.kp ⟨m3,m4⟩ (ax.o.mono (fun g _ h=>⟨by rw[hD.o];have:=hg.o;have:=q.o.gs;omega,by have:=hg.o;have:=q.o.gs;omega⟩)));have bf:=(q.o.br.set_ 0 (I r.1.con)).set_ 1 (.slice A5 r.1.pts.length c5);have d0:=bf.cell 0;have d1:=bf.cell 1;refine bodyPost_ret (v:=.tuple #[.agg #[I r.1.con,.slice A5 r.1.pts.length c5],I r.2]) (by simp[results,Tryz.results155,go_sem,d0,d1]) rfl ?_;exact d.o
  have z:r=(.c 0,3):=by
   rw[hr.o];unfold al;rw[if_neg (fun h=>B (by have:=h.1;unfold az at this;rw[if_neg h0,T.mk_con,<-a3.o] at this;rw[a9.o];exact this))]
  subst z;have F:(1099511627776:Int)<(sat (a.natAbs*k.natAbs):Nat):=by unfold sat;split<;>omega
  have z0:=H.o.cell 0;have z1:=H.o.cell 1;have d:Z (TeP w D (.c 0,3) (.returned (.tuple #[.agg #[I 0,.slice none 0 0],I 3])) W0):=bZ ⟨none,0,rfl,C9 _,by simp[maxLen],bZ (bH _ _ _ _ (fun a h=>by cases h)),bZ t3⟩;generalize sat (a.natAbs*k.natAbs)=S at*;clear B;go_enter Tryz.func155,Tryz.ntmps155;go_wp2_with (first | (go_at_call 195;refine(HA.o _ _ (by first | exact ak | exact R)).mono ?_;rintro e w' ⟨rfl,rfl⟩) | (go_at_call 194;refine(HT.o _).mono ?_;rintro e w' ⟨rfl,rfl⟩));rw[<-m,<-K,<-L];refine bodyPost_ret (v:=.tuple #[.agg #[I 0,.slice none 0 0],I 3]) (by simp[results,Tryz.results155,go_sem,z0,z1]) rfl ?_;exact d.o
end
theorem qU {n b k:Int} (a:0<b) (c:b*k<=n) (d:n<b*k+b):n/b=k:=by
 have e:k<=n/b:=(Int.le_ediv_iff_mul_le a).2 (by rw[Int.mul_comm];exact c);have f:n/b<k+1:=(Int.ediv_lt_iff_lt_mul a).2 (by rw[Int.add_mul,Int.one_mul,Int.mul_comm];exact d);omega
theorem ir (n b:Int) (e:1<=b):n/b=if n.tmod b<0 then n.tdiv b - 1 else n.tdiv b:=by
 have a:=Int.mul_tdiv_add_tmod n b;have c:n.tmod b<b:=Int.tmod_lt_of_pos n (by omega);have d: -b<n.tmod b:=by
  have:=Int.lt_tmod_of_pos n (b:=b) (by omega);omega
 generalize n.tdiv b=q at*;generalize n.tmod b=r at*
 split
 ·exact qU (by omega) (by rw[Int.mul_sub];omega) (by rw[Int.mul_sub];omega)
 exact qU (by omega) (by omega) (by omega)
theorem tQ (w:World) (n b:Int) (f:n.natAbs<=4611686018427387904) (a:1<=b/\b<=1000):Calls Tryz.prog 216 #[I n,I b] w fun e d=>e=.returned (I (n/b))/\d=w:=by
 have g:(b==0)=false:=beq_false_of_ne (by omega);have c:b≠0:=by omega
 go_enter Tryz.func216,Tryz.ntmps216;go_wp2_with fail
 ·go_ret;rename_i h;refine⟨congrArg (fun x=>Ending.returned (I x)) (?_:(_:Int)=_),rfl⟩;rw[ir n b a.1,if_pos h];have:=Int.natAbs_tdiv_le_natAbs n b;exact IntWalk.wrap64_in _ (by omega)
 go_ret;rename_i h;refine⟨congrArg (fun x=>Ending.returned (I x)) (?_:(_:Int)=_),rfl⟩;rw[ir n b a.1,if_neg (by omega)]
theorem yj (C:Nat->Prop) (t:T) (b:Int) (w:World) (A:Option Addr) (c:Nat) (s:Nm t) (hb:1<=b/\b<=1000) (B:t.wd<=1000000) (hT:TAt w C A t):
 Calls Tryz.prog 193 #[tmV t A c,I b] w (TeP w (fun g=>w.heap.size<=g) (al (aZ t b))):=by
  obtain⟨n,hn⟩:∃n,n=t.pts.length:=⟨_,rfl⟩;obtain⟨a,ha⟩:∃a,a=t.con:=⟨_,rfl⟩;have a1:=aA B;unfold tmV;rw[<-hn,<-ha];rw[<-hn] at a1;obtain⟨t1,X,P⟩:=aX w 38 #[I a,.slice A n c] #[I 0,.slice none 0 0];obtain⟨W0,j⟩:∃W0,W0=(w.alloc (.cells #[I a,.slice A n c] 38)).alloc (.cells #[I 0,.slice none 0 0] 38):=⟨_,rfl⟩;obtain⟨gt,z⟩:∃g,g=w.heap.size:=⟨_,rfl⟩;obtain⟨gr,x⟩:∃g,g=w.heap.size+1:=⟨_,rfl⟩;rw[<-j,<-x] at X;rw[<-j,<-z] at t1;rw[<-j] at P;have R:Z (w.heap.size<=gt/\w.heap.size<=gr/\gt≠gr/\gr<W0.heap.size/\gt<W0.heap.size):=bZ ⟨by omega,by omega,by omega,X.lt,t1.lt⟩;obtain⟨r,S⟩:∃r,r=al (aZ t b):=⟨_,rfl⟩;obtain⟨D,hD⟩:∃D:Nat->Prop,D=fun g=>w.heap.size<=g:=⟨_,rfl⟩;rw[<-S,<-hD];have l:=bZ hn;have H:=bZ ha;have J:=bZ (fun W (hW:ad [] w W)=>kE C t W A c s.1 (aA B) B (hT.keep0 hW));unfold tmV kK at J;rw[<-hn,<-ha] at J;have ac:(b<1)=False:=eq_false (by omega);have ak:(1000<b)=False:=eq_false (by omega);replace S:=bZ S;replace hD:=bZ hD;replace s:=bZ s;replace B:=bZ B;replace t1:=bZ t1;replace X:=bZ X;replace P:=bZ P;clear hn ha hT;by_cases L:b=1
  ·have M:Z (r=(t,0)):=bZ (by rw[S.o];unfold aZ al;rw[if_pos L,if_pos s.o.2.1]);subst L;go_enter Tryz.func193,Tryz.ntmps193;go_wp2_with (go_at_call 196;refine(J.o _ (by rw[<-j];exact P.o)).mono ?_;rintro e d ⟨k,c1,m,rfl,m1,m2,O,N,K⟩;rw[<-j] at O N K;rw[<-x,<-z];clear x z j;have Y:=bZ (X.o.keep K.o (by simp));have y:=Y.o.cell;have yf:=Y.o.frozen);have f:=bZ (aM (D:=D) (r:=(t,0)) (A:=k) (c:=c1) R.o.2.1 (P.o.trans K.o) (by rw[<-l.o];exact⟨m1,m2⟩) ((kK.at_ (by rw[<-l.o];exact O.o) (by rw[<-l.o];exact N.o)).mono (fun g _ h=>⟨by rw[hD.o];have:=R.o;omega,by have:=R.o;omega⟩)));have bf:=(Y.o.set_ 0 (I a)).set_ 1 (.slice k n c1);have d0:=bf.cell 0;have d1:=bf.cell 1;dsimp only at f;rw[<-l.o,<-H.o] at f;refine bodyPost_ret (v:=.tuple #[.agg #[I a,.slice k n c1],I 0]) (by simp[results,Tryz.results193,go_sem,d0,d1]) rfl ?_;rw[M.o];exact f.o
  have am:(b==1)=false:=beq_false_of_ne L;replace L:=bZ L;by_cases h0:n=0
  ·have F:t.pts=[]:=Dh (by rw[<-l.o];exact h0);have M:Z (r=(.c (a/b),0)):=bZ (by
    have:=jm s.o hb.1 F;rw[S.o];unfold al;rw[if_pos this];unfold aZ;rw[if_neg L.o,if_pos F,<-H.o])
   have HF:=bZ (fun W=>tQ W a b (by rw[H.o];have:=s.o.2.1.1;omega) hb);obtain⟨u1,u2,u3⟩:=aX w 38 #[I a,.slice A n c] #[I (a/b),.slice none 0 0];have d0:=u2.cell 0;have d1:=u2.cell 1;have f:Z (TeP w D (.c (a/b),0) (.returned (.tuple #[.agg #[I (a/b),.slice none 0 0],I 0])) ((w.alloc (.cells #[I a,.slice A n c] 38)).alloc (.cells #[I (a/b),.slice none 0 0] 38))):=bZ ⟨none,0,rfl,C9 _,by simp[maxLen],bZ (bH _ _ _ _ (fun a h=>by cases h)),bZ u3⟩;have a3:((n:Int)==0)=true:=by rw[h0];rfl
   generalize a/b=q at*;clear u1 u2 u3 j z x;replace h0:=bZ h0;go_enter Tryz.func193,Tryz.ntmps193;go_wp2_with (go_at_call 216;refine(HF.o _).mono ?_;rintro e w' ⟨rfl,rfl⟩);refine bodyPost_ret (v:=.tuple #[.agg #[I q,.slice none 0 0],I 0]) (by simp[results,Tryz.results193,go_sem,d0,d1]) rfl ?_;rw[M.o];exact f.o
  have a3:((n:Int)==0)=false:=beq_false_of_ne (by omega);have F:t.pts≠[]:=fun h=>h0 (by rw[l.o,h];rfl);have E:aZ t b=.mk [⟨1,2,0,b,t⟩] 0:=by unfold aZ;rw[if_neg L.o,if_neg F]
  have a0:=(s.o.div hb.1 hb.2).1;have CK:Z (∀d k c1 m,ad [] W0 d->n<=c1->c1<=maxLen->d.ownsRow W0.heap.size 221 5 (.slice k n c1) n m->Is d (fun g=>W0.heap.size<=g/\(Value.slice k n c1).ownBlock≠some g) t.tr m->
   Calls Tryz.prog 197 #[.agg #[I 0,.slice (V (d.heap.size+1)) 1 1]] ((d.alloc (.cells #[I a,.slice k n c1] 38)).alloc (.cells #[I 1,I 2,I 0,I b,.slice (V d.heap.size) 1 1] 221)) (TeP ((d.alloc (.cells #[I a,.slice k n c1] 38)).alloc (.cells #[I 1,I 2,I 0,I b,.slice (V d.heap.size) 1 1] 221)) (fun g=>W0.heap.size<=g) r)):=bZ (fun d k c1 m hk aa ab O N=>by
   have a4:TAt d (fun g=>W0.heap.size<=g) k t:=⟨m,dq O,N.mono (fun _ _ h=>h.1)⟩
   have v1:=(Blk.new d 38 #[I a,.slice k n c1]).alloc (.cells #[I 1,I 2,I 0,I b,.slice (V d.heap.size) 1 1] 221)
   have v2:=Blk.new (d.alloc (.cells #[I a,.slice k n c1] 38)) 221 #[I 1,I 2,I 0,I b,.slice (V d.heap.size) 1 1]
   rw[show (d.alloc (.cells #[I a,.slice k n c1] 38)).heap.size=d.heap.size+1 by simp] at v2
   have kk:=((ad.refl [] d).alloc (.cells #[I a,.slice k n c1] 38)).alloc (.cells #[I 1,I 2,I 0,I b,.slice (V d.heap.size) 1 1] 221)
   have a5:=a4.keep0 kk
   have a2:=hk.size
   have a9:TAt ((d.alloc (.cells #[I a,.slice k n c1] 38)).alloc (.cells #[I 1,I 2,I 0,I b,.slice (V d.heap.size) 1 1] 221)) (fun g=>W0.heap.size<=g) (V (d.heap.size+1)) (aZ t b):=by
    refine⟨ptV ⟨1,2,0,b,t⟩ (V d.heap.size) 1 1,⟨fun a h=>by cases h;rfl,dl.mk_ (by show W0.heap.size<=d.heap.size+1;omega) (fun i u hi=>?_)⟩,?_⟩
    ·rw[Dl,v2.cell];simpa [ptV] using hi
    rw[E,T.tr_eq,T.mk_pts];have:Is ((d.alloc (.cells #[I a,.slice k n c1] 38)).alloc (.cells #[I 1,I 2,I 0,I b,.slice (V d.heap.size) 1 1] 221)) (fun g=>W0.heap.size<=g) (Pt.tr ⟨1,2,0,b,t⟩) (ptV ⟨1,2,0,b,t⟩ (V d.heap.size) 1 1):=
     bL.2 ⟨_,1,1,rfl,C9 _,by simp[maxLen],fun h=>absurd rfl h,fun _=>⟨rfl,d.heap.size,0,k,c1,rfl,a2,by rw[v1.cell,H.o];rfl,by rw[v1.cell,<-l.o];rfl,by rw[<-l.o];exact aa,ab,a5⟩⟩
    simpa [cat,Tr.app_nil] using this
   have:=eW (fun g=>W0.heap.size<=g) (aZ t b) _ (V (d.heap.size+1)) 1 (by rw[E];simp[T.mk,T.pts,maxLen]) a0 (by rw[E];refine⟨by simp[T.mk,T.con],fun p hp=>?_⟩;rw[T.mk_pts,CZ] at hp;subst hp;show (1:Int).natAbs<=_;decide) (iB B.o (by decide)) a9
   unfold tmV at this
   rw[<-S.o,E,T.mk_con,T.mk_pts] at this
   exact this)
  clear E F a0;go_enter Tryz.func193,Tryz.ntmps193;go_wp2_with (first | (go_at_call 196;refine(J.o _ (by rw[<-j];exact P.o)).mono ?_;rintro e d ⟨k,c1,m,rfl,m1,m2,O,N,K⟩;rw[<-j] at O N K;rw[<-x,<-z];clear x z j;have Y:=bZ (X.o.keep K.o (by simp));have an:gr<d.heap.size:=Y.o.lt;have a2:=bZ K.o.size) | (go_at_call 197;refine(CK.o d k c1 m K.o m1 m2 O.o N.o).mono ?_;rintro e w5 ⟨A5,c5,rfl,m3,m4,a6,k5⟩;have Q:=bZ (Y.o.keep (((ad.refl [] d).alloc _).alloc _ |>.trans k5.o) (by simp));have y:=Q.o.cell;have yf:=Q.o.frozen));have f:=bZ (aM (D:=D) (r:=r) R.o.2.1 ((P.o.trans K.o).trans ((((ad.refl [] d).alloc _).alloc _).trans k5.o)) ⟨m3,m4⟩ (a6.o.mono (fun g _ h=>⟨by rw[hD.o];have:=R.o;omega,by have:=R.o;omega⟩)));have bf:=(Q.o.set_ 0 (I r.1.con)).set_ 1 (.slice A5 r.1.pts.length c5);have d0:=bf.cell 0;have d1:=bf.cell 1;refine bodyPost_ret (v:=.tuple #[.agg #[I r.1.con,.slice A5 r.1.pts.length c5],I r.2]) (by simp[results,Tryz.results193,go_sem,d0,d1]) rfl ?_;exact f.o
end Go.Proofs.YtldmkbhgdbafhaaGreat
