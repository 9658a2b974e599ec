import Derived.Test.YtmlmfpikncogpaaGreatL39
namespace Go.Proofs.YtmlmfpikncogpaaGreat
open Go.RowKit
set_option linter.unusedSimpArgs false
set_option linter.unusedVariables false
set_option maxRecDepth 100000
set_option maxHeartbeats 16000000
namespace Wa
section
open Go.RowKit Dk
def wrs (s:St) (i ep:Nat):Nat->List UInt8->St×Int
 | 0,d=>(s,0)
 | f+1,d=>if d=[] then (s,0) else if (wr s i (bq (d.take 59) ep)).2=0 then wrs (wr s i (bq (d.take 59) ep)).1 (i+1) ep f (d.drop 59) else wr s i (bq (d.take 59) ep)
theorem ml (s:St) (i ep f:Nat):wrs s i ep f []=(s,0):=by
 cases f with
 | zero=>rfl
 | succ f=>show (if ([]:List UInt8)=[] then (s,0) else _)=_;rw[if_pos rfl]
theorem pF {s:St} {i ep f:Nat} {d:List UInt8} (a:d≠[]) (h:(wr s i (bq (d.take 59) ep)).2=0):wrs s i ep (f+1) d=wrs (wr s i (bq (d.take 59) ep)).1 (i+1) ep f (d.drop 59):=by
 show (if d=[] then (s,0) else if (wr s i (bq (d.take 59) ep)).2=0 then _ else _)=_;rw[if_neg a,if_pos h]
theorem mm {s:St} {i ep f:Nat} {d:List UInt8} (a:d≠[]) (h:(wr s i (bq (d.take 59) ep)).2≠0):wrs s i ep (f+1) d=wr s i (bq (d.take 59) ep):=by
 show (if d=[] then (s,0) else if (wr s i (bq (d.take 59) ep)).2=0 then _ else _)=_;rw[if_neg a,if_neg h]
theorem de (s:St) (i:Int) (b:List UInt8) (h:0<=s.writes):0<=(wr s i b).1.writes/\(wr s i b).1.writes<=s.writes+1:=by
 unfold wr fail
 split
 ·dsimp only;omega
 split
 ·dsimp only;omega
 split
 ·dsimp only;omega
 dsimp only;omega
theorem Ad (a:List UInt8) (n:Nat) (b:a.length=n) (h:n<=59):splice (List.replicate 64 0) 0 (a.take 64)=a++List.replicate (64 - n) 0:=by
 rw[C6 (by omega)];simp only[splice,EY,Dm,Dl,List.drop_replicate,b]
theorem Ac (a:List UInt8) (n:Nat) (b:a.length=n) (h:n<=59):((((a++List.replicate (64 - n) 0).map bv).toArray).setIfInBounds 59 (.int .u8 (n:Int)))=((a++List.replicate (59 - n) 0++[UInt8.ofNat n]++List.replicate 4 0).map bv).toArray:=by
 have c:(Value.int .u8 (n:Int))=bv (UInt8.ofNat n):=by
  unfold bv;rw[Eg,show n%2^8=n by omega]
 rw[c,EK,<-EV]
 congr 2
 rw[show 64 - n=(59 - n)+(1+4) by omega,<-List.replicate_append_replicate,<-List.replicate_append_replicate,<-Dd,EL _ _ (by simp;omega)];simp only[CU,DG,b];rw[show 59 - (n+(59 - n))=0 by omega];simp
theorem vK (a:List UInt8) (n ep:Nat) (d:a.length=n) (h:n<=59):splice (a++List.replicate (59 - n) 0++[UInt8.ofNat n]++List.replicate 4 0) 60 ((gQ ep).take 4)=bq a ep:=by
 have b:(gQ ep).take 4=gQ ep:=C6 (by rw[eC];omega);rw[b];have c:(a++List.replicate (59 - n) 0++[UInt8.ofNat n]).length=60:=by simp;omega
 unfold splice bq;rw[DS c,eC,DB (by simp;omega),DA,d]
theorem re (w:World) (n:Nat) (a:n<4294967296):Calls Tryz.prog 78 #[.int .u32 n] w fun e w'=>e=.returned (.slice (V w.heap.size) 4 4)/\Blk w' w.heap.size 5 ((gQ n).map bv).toArray/\aa [] w w':=
 (kh w n a).mono fun e w' h=>h
theorem ej {w:World} {g:Nat} {l:List UInt8} (h:Blk w g 5 (l.map bv).toArray):Bts w (V g) l:=.inr ⟨g,0,rfl,fun j v a=>by
 rw[h.cell,Dl];simp[a]⟩
theorem x9 {w:World} {g k:Nat} {a:List UInt8} (h:Blk w g 5 ((a++List.replicate (64 - k) 0).map bv).toArray) (d:a.length=k) (b:k<=59):
 w.cell? (U g 59)=some (bv ((a++List.replicate (64 - k) 0).getD 59 0)):=by
  rw[h.cell];have c:59<(a++List.replicate (64 - k) (0:UInt8)).length:=by simp;omega
  simp only[DW,De,Ec,CT c];rfl
theorem xY {w w1 w2:World} {X:List Nat} (b:aa [] w w1) (c:aa [w.heap.size] w1 w2):aa X w w2:=
 (b.nil.trans c).mono (by intro x a;simp at a;subst a;exact .inr (C9 _))
theorem Ae {a:List UInt8} {k:Nat} (b:a.length=k) (h:k<=59):60+4<=(a++List.replicate (59 - k) 0++[UInt8.ofNat k]++List.replicate 4 0).length:=by
 simp only[CU,DG,DE];omega
theorem vJ {w w1 w2:World} {X:List Nat} (b:aa X w w1) (c:aa [w.heap.size] w1 w2):aa X w w2:=
 ((b.mono (Y:=w.heap.size::X) (fun x a=>.inl (by simp[a]))).trans (c.mono (fun x a=>.inl (by simp at a;simp[a])))).mono (by intro x a;simp at a;rcases a with rfl | a;exact .inr (C9 _);exact .inl a)
theorem BC {w:World} {g:Nat} {t:TypeId} {cs:Array Value} (h:Blk w g t cs):g∉[w.heap.size]:=by
 have:=h.lt;simp;omega
theorem oK {P:Program} {w:World} {m:Array Oper} {o:Oper} {a:Act} {K:Act->World->Prop} {Q:Exit->Act->World->Prop} {E:Prop} (p:Region.wanted o (yielded m a.tmps)=true) (d s:Operand) (n r:TypeId)
 (C:o.op=.call { callee:=.builtin .copy,args:=#[d,s],argTypes:=#[n,r] }) (e:TypeId) (H:P.underlying n=some (.slice e)) (q:(P.info? e).map (·.size)=some 1)
 (g off b i:Nat) (A:Option Addr) (l:List UInt8) (c j:Nat) (y:a.eval d=.slice (some (U g off)) b i) (F:a.eval s=.slice A c j) (B:l.length=c) (x:Bts w A l)
 (f:List UInt8) (t:TypeId) (z:Blk w g t (f.map bv).toArray) (k:off+b<=f.length)
 (h:∀w',Z (Blk w' g t ((splice f off (l.take b)).map bv).toArray)->aa [g] w w'->K (a.put o.dst (goInt ((min c b:Nat):Int))) w'):
 if Region.wanted o (yielded m a.tmps)=true then Oper.wp P o a w K Q else E:=by
  rw[if_pos p];obtain⟨w',D,u,v⟩:=j8 (P:=P) (w:=w) n r o.type e H q g off b i A l c j B x f t z k;unfold Oper.wp execOp;simp only[C,resolve,invoke,builtin,DM,DZ,DH,Eb,D1,Er,y,F,D];exact h w' (bZ u) v
def iq (a:List Nat) (w:World) (c b d fi co ep f:Nat) (L r:List UInt8) (q:St×Int) (e:Ending) (w':World):Prop:=
 e=.returned (I q.2)/\aZ w' b d q.1/\(if q.2=0 then lg a w' c b fi co ep (L++enc r) (f+1) else lg a w' c b fi co ep L f)/\aa [c,b,d] w w'
theorem uT {e:List Nat} {w j:World} {d o fi co ep c base b v a g:Nat} {L r E:List UInt8} {u f:Option Addr} (l:lg e w d o fi co ep L c) (q:c+1<=1000000) (N:L.length+(r.length+4)=b) (i:b<=59*co)
 (p:Blk j d 169 #[.pointer (V o),I fi,I co,.int .u32 ep,I (b:Nat),.slice u a v,I c])
 (K:j.ownsRow base 5 1 (.slice f (b%59) g) (b%59) (E.map bv)) (C:E=(L++enc r).drop (59*(b/59))) (D:∀z∈e,z<base):
 lg e ((j.setCell (U d 5) (.slice f (b%59) g)).setCell (U d 6) (I ((c:Int)+1))) d o fi co ep (L++enc r) (c+1):=by
  have n:(L++enc r).length=b:=by rw[CU,cQ];omega
  obtain⟨y,M,A,B,t⟩:=bK K;have k:aa [d] j ((j.setCell (U d 5) (.slice f (b%59) g)).setCell (U d 6) (I ((c:Int)+1))):=((aa.refl _ _).setCell (by simp) _).setCell (by simp) _;have F:=(p.set_ 5 (.slice f (b%59) g)).set_ 6 (I ((c:Int)+1));refine⟨⟨f,g,?_,by rw[n];exact A,B,?_,?_⟩,l.co1,l.fi1,l.ep0,l.ep1,by rw[n];exact i,q⟩
  ·rw[n];rw[show (((c+1:Nat)):Int)=(c:Int)+1 by omega];exact F
  ·rw[n,<-C];refine y.keep k ?_;intro x s;obtain⟨_,_,h,m⟩:=t x s;simp;exact m.ne_ p (by decide)
  intro x s;obtain⟨H,_,h,m⟩:=t x s;refine⟨fun J=>by have:=D _ J;omega,h,m.keep k ?_⟩;simp;exact m.ne_ p (by decide)
theorem AN (bp:List Nat) (w:World) (b bd bs fi co ep rc:Nat) (s:St) (L r:List UInt8) (A:Option Addr) (n c:Nat) (hD:aZ w bd bs s) (h:lg bp w b bd fi co ep L rc) (hn:r.length=n) (gv:n<=c) (hB:Bts w A r)
 (hf:(n:Int)<=iO (59*co - L.length:Int)) (h6:0<=s.writes) (hw:s.writes<=800000) (hZ:∀z∈bp,z<w.heap.size) (ec:rc+1<=1000000):
 Calls Tryz.prog 43 #[.pointer (V b),.slice A n c] w
  (iq bp w b bd bs fi co ep rc L r (wrs s (fi+L.length/59) ep (L.drop (59*(L.length/59))++enc r).length (L.drop (59*(L.length/59))++enc r))):=by
 have HF:=bZ (rE bp w b bd fi co ep rc L h)
 obtain⟨At,ct,R,f1,g0,bh,ee⟩:=h.ex
 have gd:=h.co1
 have ge:=h.fi1
 have f3:=h.ep1
 have e8:=h.len
 have hc:=R.cell
 have f6:(n:Int)<=59*co - L.length - 4/\n<=16777216:=by unfold iO at hf;omega
 have c9:(L.drop (59*(L.length/59))).length=L.length%59:=by rw[Da];omega
 replace h:=bZ h
 have da:=bZ hD
 replace hD:=bZ hD
 replace hB:=bZ hB
 replace hn:=bZ hn
 replace bh:=bZ bh
 replace ee:=bZ ee
 replace R:=bZ R
 replace c9:=bZ c9
 replace hZ:=bZ hZ
 have f4:¬iO (59*(co:Int) - (L.length:Int))<(n:Int):=by omega
 clear hf
 generalize hT:L.drop (59*(L.length/59))=T at*
 replace hT:=bZ hT
 obtain⟨u,hu⟩:∃u,L.length=u:=⟨_,rfl⟩
 rw[hu] at hc f6 f1 e8 f4
 have E:Z (T.length=u%59):=bZ (by rw[c9.o,hu])
 rw[hu] at HF
 have ar:=R.o
 rw[hu] at ar
 replace R:=bZ ar
 clear ar
 rw[hu]
 replace hu:=bZ hu
 clear c9
 obtain⟨D,S⟩:∃D,T++enc r=D:=⟨_,rfl⟩
 rw[S]
 have c6:Z (D.length=u%59+(n+4)):=bZ (by rw[<-S,CU,cQ,E.o,hn.o])
 replace S:=bZ S
 go_enter Tryz.func43,Tryz.ntmps43
 go_wp2_with fail
 refine HF.o.mono ?_
 rintro e w1 ⟨rfl,m,rfl⟩
 have kd:=(aa.refl [] w).drewN m
 generalize w.drewN m=wa at*
 have s5:wa.cell? (U b 5)=G At (u%59) ct:=((R.o.keep kd (by simp)).cell 5).trans rfl
 have fz:=fun o=>((aa.refl [] wa).alloc o).cellEq s5 (by simp)
 replace R:=bZ (R.o.keep kd (by simp))
 replace hD:=bZ (hD.o.keep kd (by simp) (by simp))
 replace hB:=bZ (hB.o.keep kd (by simp))
 replace bh:=bZ (bh.o.keep kd (by simp))
 replace kd:=bZ kd
 clear hc HF
 have HM:Z ((wa.alloc (.cells #[] 5)).ownsRow wa.heap.size 5 1 (.slice (V wa.heap.size) 0 0) ([]:List UInt8).length (([]:List UInt8).map bv)):=bZ (Fd wa #[] 0 (C9 _) (by simp[maxLen]) (by simp))
 have info5:Z ((Tryz.prog.info? 5).map (fun i=>(i.zero,i.size,i.bytes))=some (some (.int .u8 0),1,1)):=bZ (by kernel_rfl)
 have KA:Z (aa [] wa (wa.alloc (.cells #[] 5))):=bZ ((aa.refl [] _).alloc _)
 have d6:=bZ (bh.o.keep KA.o (by simp))
 have d2:Z (([]:List UInt8).length+u%59=u%59):=bZ (Dl _)
 have d0:Z (T.length+4=u%59+4):=bZ (by rw[E.o])
 have cb:Z ((T++gQ n).length=u%59+4):=bZ (by rw[CU,eC,E.o])
 have d1:Z ((T++gQ n).length+n=D.length):=bZ (by rw[cb.o,c6.o];omega)
 have fs:Z (T++gQ n++r=D):=bZ (by rw[<-S.o,Dd,<-hn.o];rfl)
 have fx:n<4294967296:=by omega
 have es:(n:Int)%4294967296=n:=by omega
 go_wp2_with (first
  | (at_builtin;refine ai rfl (.tmp 16) (.tmp 20) 79 rfl wa.heap.size 5 Tryz.underlying79 info5.o (.slice (V wa.heap.size) 0 0) [] T rfl ?_ _ _ _ rfl ?_ ?_ ?_ ?_ ?_;(exact HM.o);(exact E.o);(exact d6.o);(rw[E.o,D6];omega);(exact KA.o.size);intro A1 c1 wb G1 G2 G3;rw[d2.o];have O:=G1.o;rw[d2.o,Dm] at O;have kb:=bH (w:=wa) HM.o KA.o (C9 _) G2.o;have ek:=bZ kb;have o1:wb.ownsRow wa.heap.size 5 1 (.slice A1 (u%59) c1) T.length (T.map bv):=E.o.symm▸O;replace o1:=bZ o1;clear G1 G2 G3 O kb)
  | (go_at_call 78;refine(re wb n fx).mono ?_;rintro e wc ⟨rfl,hP,k4⟩;have o2:=bZ (cV o1.o k4 (fun _ _=>Dw));have kc:=bZ (ek.o.trans k4);have b2:=bZ (ej hP);clear hP k4 o1 ek)
  | (at_builtin;refine ai rfl (.tmp 21) (.tmp 25) 79 rfl wa.heap.size 5 Tryz.underlying79 info5.o (.slice A1 (u%59) c1) T (gQ n) rfl ?_ _ _ _ rfl ?_ ?_ ?_ ?_ ?_;(exact o2.o);(exact eC n);(exact b2.o);(rw[E.o,eC];omega);(exact kc.o.size);intro A2 c2 wd G1 G2 G3;rw[d0.o];have O:=G1.o;rw[d0.o] at O;have cj:=bZ (bH (w:=wa) o2.o kc.o (C9 _) G2.o);have o3:=bZ (cb.o.symm▸O:wd.ownsRow wa.heap.size 5 1 (.slice A2 (u%59+4) c2) (T++gQ n).length ((T++gQ n).map bv));have d7:=bZ (hB.o.keep cj.o (fun _ _=>Dw));clear G1 G2 G3 O o2 kc b2)
  | (at_builtin;refine ai rfl (.tmp 26) (.tmp 27) 79 rfl wa.heap.size 5 Tryz.underlying79 info5.o (.slice A2 (u%59+4) c2) (T++gQ n) r rfl ?_ _ _ _ rfl ?_ ?_ ?_ ?_ ?_;(exact o3.o);(exact hn.o);(exact d7.o);(rw[cb.o,hn.o];omega);(exact cj.o.size);intro A3 c3 we G1 G2 G3;rw[d1.o];have O:=G1.o;rw[d1.o,fs.o] at O;have ke:=bZ (bH (w:=wa) o3.o cj.o (C9 _) G2.o);have o4:=bZ O;clear G1 G2 G3 O o3 cj d7))
 clear s5 fz HM KA d6 d2 d0 cb d1 es
 have F:=bZ (R.o.keep ke.o (by simp))
 have s0:we.cell? (U b 0)=some (.pointer (V bd)):=(F.o.cell 0).trans rfl
 have s1:we.cell? (U b 1)=some (I fi):=(F.o.cell 1).trans rfl
 have s4:we.cell? (U b 4)=some (I u):=(F.o.cell 4).trans rfl
 go_quiet (fail)
 go_wp2_with fail
 have kq:=(aa.refl [] we).drewN nq
 replace o4:=bZ (cV o4.o kq (by simp))
 replace F:=bZ (F.o.keep kq (by simp))
 replace ke:=bZ (ke.o.trans kq)
 clear s0 s1 s4 kq
 generalize we.drewN nq=wl at*
 have a8:=bZ (hD.o.keep ke.o (by simp) (by simp))
 have v:b≠bd:=F.o.ne_ a8.o.d (by decide)
 have y:b≠bs:=F.o.ne_ a8.o.m (by decide)
 obtain⟨dn,_,ds,fn,dc⟩:=bK o4.o
 have a6:Z (Bts wl A3 D/\∀a,A3=some a->∃f,Blk wl a.block 5 f):=bZ ⟨dn,fun a ha=>(dc a ha).2.2⟩
 replace o4:=bZ o4.o
 clear dn dc
 have fv:Z (madeCells #[.int .u8 0] 64=((List.replicate 64 (0:UInt8)).map bv).toArray):=bZ (by rw[List.map_replicate];exact dK 1 64 (bv 0) (by decide))
 obtain⟨H,b9⟩:∃H,fi+u/59=H:=⟨_,rfl⟩
 rw[b9]
 have g2:H<=140000:=by omega
 have e5:Z ((fi:Int)+(u:Int)/59=(H:Int)+((0:Nat):Int)):=bZ (by omega)
 replace b9:=bZ b9
 have a2:Z (D.length<=3866700):=bZ (by rw[c6.o];omega)
 go_loopw [6,7] (fun se rest wr=>∃(j l c:Nat) (s':St) (d:List UInt8) (B:Option Addr),se=I ((H:Int)+(j:Int))/\rest=.slice B l c/\Z (d.length=l)/\l<=c/\c<=maxLen/\l<=D.length/\j<=D.length/\Z (l=0\/59*j+l=D.length)/\Z (Bts wr B d/\∀a,B=some a->∃f,Blk wr a.block 5 f)/\Z (aZ wr bd bs s')/\Z (0<=s'.writes/\s'.writes<=s.writes+j)/\Z (wrs s H ep D.length D=wrs s' (H+j) ep (D.length - j) d)/\Z (aa [bd,bs] wl wr)) (fun _ rest _=>lenOf rest)
 case atStart=>exact⟨0,D.length,c3,s,D,A3,congrArg (Value.int .i64) e5.o,rfl,bZ rfl,ds,fn,C9 _,C3 _,bZ (.inr (by omega)),a6,a8,bZ (by omega),bZ (by simp),bZ (aa.refl _ _)⟩
 case round=>
  obtain⟨j,l,c5,s',d,B,rfl,rfl,W,fl,f0,gt,fd,ak,ac,a3,eg,cr,an⟩:=hrel;clear a8;unfold maxLen at f0;by_cases h0:l=0
  ·have e0:d=[]:=Dh (W.o.trans h0);have a0:=cr.o;rw[e0,ml] at a0;replace a0:=bZ a0;have c0:=bZ (F.o.keep an.o (by simp;exact⟨v,y⟩));have hc:=c0.o.cell;have fc:=c0.o.frozen;have dq:=bZ (a6.o.1.keep an.o (by
    intro a ha;obtain⟨f,hx⟩:=a6.o.2 a ha;have dr:=hD.o.keep ke.o (by simp) (by simp);have h1:=hx.ne_ dr.d (by decide);have h2:=hx.ne_ dr.m (by decide);simp;exact⟨h1,h2⟩))
   clear cr W ac ak eg e0 a6;subst h0;obtain⟨gD,rfl⟩:∃g,A3=V g:=by
    rcases o4.o.2 with ⟨h1,h2⟩ | ⟨g,gb,f,hv,_⟩
    ·have:=c6.o;omega
    injection hv with hv;exact⟨g,hv⟩
   obtain⟨u2,a1⟩:∃u2,u+(n+4)=u2:=⟨_,rfl⟩;obtain⟨t,ht⟩:∃t,D.length - u2%59=t:=⟨_,rfl⟩;have a7:=c6.o;have gx:t<=D.length:=by omega
   have cv:D.length - t=u2%59:=by omega
   have gz:t<=c3:=by omega
   go_upto_region 18 with fail;have P:=c0.o.set_ 4 (I ((u:Int)+(4+(n:Int))));have k1:aa [b] wr (wr.setCell (U b 4) (I ((u:Int)+(4+(n:Int))))):=(aa.refl _ _).setCell (by simp) _;generalize wr.setCell (U b 4) (I ((u:Int)+(4+(n:Int))))=M at*;rw[show ((u:Int)+(4+(n:Int)))=((u2:Nat):Int) by omega] at P;have db:=bZ (dq.o.keep k1 (by
    intro a ha;cases ha;obtain⟨_,f,hx⟩:=eN o4.o (g:=gD) rfl;simp;exact hx.ne_ F.o (by decide)))
   have s4:M.cell? (U b 4)=some (I (u2:Nat)):=(P.cell 4).trans rfl;have h7:=fun o=>((aa.refl [] M).alloc o).cellEq s4 (by simp);have e1:IntKind.i64.wrap ((D.length:Int) - (u2:Int)%59)=(t:Int):=by rw[C0 _ (by have:=a2.o;omega)];omega
   have bn:Z ((M.alloc (.cells #[] 5)).ownsRow M.heap.size 5 1 (.slice (V M.heap.size) 0 0) ([]:List UInt8).length (([]:List UInt8).map bv)):=bZ (Fd M #[] 0 (C9 _) (by simp[maxLen]) (by simp));have ap:Z (aa [] M (M.alloc (.cells #[] 5))):=bZ ((aa.refl [] _).alloc _);have bk:=bZ ((db.o.keep ap.o (by simp)).cutw (k:=t) ds);have cc:Z ((D.drop t).length=D.length - t):=bZ (Da ..);have cd:Z (([]:List UInt8).length+(D.length - t)=u2%59):=bZ (by rw[cv];exact Dl _);replace P:=bZ P;replace k1:=bZ k1;have h5:(0:Int)<=(t:Int):=by omega
   have g7:(t:Int)<=(D.length:Int):=by omega
   have g8:(t:Int)<=(c3:Int):=by omega
   replace a7:=bZ a7;replace ht:=bZ ht;replace a1:=bZ a1;replace cv:=bZ cv;clear db dq c0 hc fc;by_cases cm:c3=t
   ·have N:=bk.o;rw[if_pos cm] at N;replace N:=bZ N;clear bk;go_wp2_with (at_builtin;refine ai rfl (.tmp 90) (.tmp 100) 79 rfl M.heap.size 5 Tryz.underlying79 info5.o (.slice (V M.heap.size) 0 0) [] (D.drop t) rfl ?_ _ _ _ rfl ?_ ?_ ?_ ?_ ?_;(exact bn.o);(exact cc.o);(exact N.o);(rw[cc.o,D6];have:=a2.o;omega);(exact ap.o.size);intro A4 c4 y2 G1 G2 G3;rw[cd.o];have O:=G1.o;rw[cd.o,Dm] at O;have a5:=bZ (bH (w:=M) bn.o ap.o (C9 _) G2.o);have o5:=bZ O;have Q:=bZ (P.o.keep a5.o Dw);have s5:y2.cell? (U b 5)=G At (u%59) ct:=(Q.o.cell 5).trans rfl;have s6:y2.cell? (U b 6)=some (I rc):=(Q.o.cell 6).trans rfl;have f5:=Q.o.frozen;clear G1 G2 G3 O);go_ret;unfold iq;rw[b9.o,a0.o];have bi:=(kd.o.trans ke.o).nil.trans an.o;have d3:aa [b,bd,bs] w y2:=((bi.mono (fun x hx=>.inl (by simp at hx;simp;omega))).trans (k1.o.mono (fun x hx=>.inl (by simp at hx;simp[hx])))).trans a5.o.nil;have d4:aa [b,bd,bs] w ((y2.setCell (U b 5) (.slice A4 (u2%59) c4)).setCell (U b 6) (I ((rc:Int)+1))):=(d3.setCell (.inl (by simp)) _).setCell (.inl (by simp)) _;have ks:aa [b] y2 ((y2.setCell (U b 5) (.slice A4 (u2%59) c4)).setCell (U b 6) (I ((rc:Int)+1))):=((aa.refl _ _).setCell (by simp) _).setCell (by simp) _;have cp:=((a3.o.keep k1.o (by simp;exact fun h=>v h.symm) (by simp;exact fun h=>y h.symm)).keep a5.o (by simp) (by simp)).keep ks (by simp;exact fun h=>v h.symm) (by simp;exact fun h=>y h.symm);refine⟨rfl,cp,?_,d4⟩;rw[if_pos rfl];refine uT h.o ec (by rw[hu.o,hn.o];exact a1.o) ?_ Q.o o5.o ?_ ?_
    ·have:=a1.o;omega
    ·have b1:=hu.o;have h1:=ht.o;have h2:=a1.o;have h3:=a7.o;rw[<-S.o,<-hT.o,b1,<-DI (by omega),Eo]
     congr 1
     have h4:(L.drop (59*(u/59))++enc r).length=D.length:=by rw[<-S.o,<-hT.o,b1]
     omega
    intro z hz;have:=hZ.o z hz;have:=(bi.size);have:=k1.o.size;omega
   have N:=bk.o;rw[if_neg cm,Dl] at N;replace N:=bZ N;clear bk;go_wp2_with (at_builtin;refine ai rfl (.tmp 90) (.tmp 100) 79 rfl M.heap.size 5 Tryz.underlying79 info5.o (.slice (V M.heap.size) 0 0) [] (D.drop t) rfl ?_ _ _ _ rfl ?_ ?_ ?_ ?_ ?_;(exact bn.o);(exact cc.o);(exact N.o);(rw[cc.o,D6];have:=a2.o;omega);(exact ap.o.size);intro A4 c4 y2 G1 G2 G3;rw[cd.o];have O:=G1.o;rw[cd.o,Dm] at O;have a5:=bZ (bH (w:=M) bn.o ap.o (C9 _) G2.o);have o5:=bZ O;have Q:=bZ (P.o.keep a5.o Dw);have s5:y2.cell? (U b 5)=G At (u%59) ct:=(Q.o.cell 5).trans rfl;have s6:y2.cell? (U b 6)=some (I rc):=(Q.o.cell 6).trans rfl;have f5:=Q.o.frozen;clear G1 G2 G3 O);go_ret;unfold iq;rw[b9.o,a0.o];have bi:=(kd.o.trans ke.o).nil.trans an.o;have d3:aa [b,bd,bs] w y2:=((bi.mono (fun x hx=>.inl (by simp at hx;simp;omega))).trans (k1.o.mono (fun x hx=>.inl (by simp at hx;simp[hx])))).trans a5.o.nil;have d4:aa [b,bd,bs] w ((y2.setCell (U b 5) (.slice A4 (u2%59) c4)).setCell (U b 6) (I ((rc:Int)+1))):=(d3.setCell (.inl (by simp)) _).setCell (.inl (by simp)) _;have ks:aa [b] y2 ((y2.setCell (U b 5) (.slice A4 (u2%59) c4)).setCell (U b 6) (I ((rc:Int)+1))):=((aa.refl _ _).setCell (by simp) _).setCell (by simp) _;have cp:=((a3.o.keep k1.o (by simp;exact fun h=>v h.symm) (by simp;exact fun h=>y h.symm)).keep a5.o (by simp) (by simp)).keep ks (by simp;exact fun h=>v h.symm) (by simp;exact fun h=>y h.symm);refine⟨rfl,cp,?_,d4⟩;rw[if_pos rfl];refine uT h.o ec (by rw[hu.o,hn.o];exact a1.o) ?_ Q.o o5.o ?_ ?_
   ·have:=a1.o;omega
   ·have b1:=hu.o;have h1:=ht.o;have h2:=a1.o;have h3:=a7.o;rw[<-S.o,<-hT.o,b1,<-DI (by omega),Eo]
    congr 1
    have h4:(L.drop (59*(u/59))++enc r).length=D.length:=by rw[<-S.o,<-hT.o,b1]
    omega
   intro z hz;have:=hZ.o z hz;have:=(bi.size);have:=k1.o.size;omega
  have gs:1<=l:=by omega
  have g6:(0:Int)<(l:Int):=by omega
  go_upto_region 7 with fail;go_cut [8] from 42 to 46 (fun s8 wx=>∃k:Nat,s8=I k/\1<=k/\k<=59/\k<=l/\(k=59\/k=l)/\wx=wr)
  case first=>
   by_cases gc:(59:Int)<(l:Int)
   ·go_wp2_with fail;go_meet;exact⟨59,rfl,by omega,by omega,by omega,.inl rfl,rfl⟩
   go_wp2_with fail;go_meet;exact⟨l,rfl,by omega,by omega,by omega,.inr rfl,rfl⟩
  obtain⟨k,rfl,gk,J,gl,fk,rfl⟩:=hcut;have b7:d≠[]:=by rintro rfl;have:=W.o;simp at this;omega
  obtain⟨gB,oB,rfl⟩:∃g o,B=some (U g o):=by
   rcases ac.o.1 with h | ⟨g,o,h,_⟩
   ·exact absurd h b7
   exact⟨g,o,h⟩
  have c7:d.take k=d.take 59/\d.drop k=d.drop 59:=by
   rcases fk with rfl | rfl
   ·exact⟨rfl,rfl⟩
   have:=W.o;exact⟨by rw[C6 (by omega),C6 (by omega)],by rw[DB (by omega),DB (by omega)]⟩
  replace c7:=bZ c7;have g3:(1:Int)<=(k:Int):=by omega
  have fe:(k:Int)<=59:=by omega
  have g5:(k:Int)<=(l:Int):=by omega
  have g4:k<=c5:=by omega
  have C:Z ((d.take k).length=k):=bZ (by rw[CY,W.o];omega);have infoS:Z ((Tryz.prog.info? 5).map (·.size)=some 1):=bZ (by kernel_rfl);have ga:(k:Int)%256=k:=by omega
  go_wp2_with (first
   | (refine fR rfl 79 (.const (I 64)) (.const (I 64)) rfl 5 (.int .u8 0) 1 1 Tryz.underlying79 info5.o .i64 .i64 64 64 rfl rfl ?_ ?_ ?_ ?_;omega;omega;omega;intro x1 m1 M z1;have B1:Z (Blk x1 wc.heap.size 5 ((List.replicate 64 (0:UInt8)).map bv).toArray):=bZ (fv.o▸m1.o);have P:=bZ (ac.o.1.keep M (fun _ _=>Dw));replace M:=bZ M;clear m1 z1)
   | (refine dx rfl (.tmp 47) (.tmp 50) 79 79 rfl 5 Tryz.underlying79 infoS.o wc.heap.size 0 64 64 _ (d.take k) _ _ rfl rfl ?_ ?_ (List.replicate 64 (0:UInt8)) 5 B1.o ?_ ?_;(exact C.o);(exact P.o.take k);(rw[DG];exact C9 64);intro x2 m2 y2;rw[Ad _ k C.o J] at m2;have fy:x2.cell? (U wc.heap.size 59)=some (bv ((d.take k++List.replicate (64 - k) 0).getD 59 0)):=x9 m2.o C.o J;have ev:=m2.o.frozen 59;have en:=bZ (xY (X:=[]) M.o y2);replace y2:=bZ y2))
  have b3:=m2.o.set_ 59 (.int .u8 (k:Int));rw[Ac _ k C.o J] at b3;have a4:aa [] wc (x2.setCell (U wc.heap.size 59) (.int .u8 (k:Int))):=en.o.setCell (.inr (C9 _)) _;have bt:=F.o.keep an.o (by simp;exact⟨v,y⟩);have p:=bt.keep a4 (by simp);have gf:wc.heap.size<(x2.setCell (U wc.heap.size 59) (.int .u8 (k:Int))).heap.size:=b3.lt;clear fy ev m2 B1 P M y2 en;generalize x2.setCell (U wc.heap.size 59) (.int .u8 (k:Int))=x3 at*;have s3:x3.cell? (U b 3)=some (.int .u32 ep):=(p.cell 3).trans rfl;replace b3:=bZ b3;replace a4:=bZ a4;replace p:=bZ p;replace bt:=bZ bt;have b4:=bZ (BC bt.o);have e2:=f3;have KR:Z (aa [wc.heap.size] x3 x3.drew):=bZ (aa.refl _ _).drew;replace b3:=bZ b3.o.drew;replace a4:=bZ a4.o.drew;replace p:=bZ p.o.drew;go_region_held3 (fun w'=>w'.cell? (U b 3)=some (.int .u32 ep))
   ((refine(fun (kk:aa [wc.heap.size] x3 _)=>kk.cellEq s3 b4.o) ?_;exact KR.o))
   (first
    | (go_at_call 78;refine(re _ ep e2).mono ?_;rintro e x5 ⟨rfl,hP,k5⟩;have b2:=bZ (ej hP);have b5:=bZ (b3.o.keep k5 Dw);have er:=bZ (a4.o.trans k5);have ck:=bZ (p.o.keep k5 Dw);replace KR:=bZ (KR.o.trans k5.nil);clear hP k5)
    | (refine oK (by rfl) (.tmp 57) (.tmp 62) 79 79 (by rfl) 5 Tryz.underlying79 infoS.o wc.heap.size 60 4 4 _ (gQ ep) _ _ (by rfl) (by rfl) ?_ ?_ (d.take k++List.replicate (59 - k) 0++[UInt8.ofNat k]++List.replicate 4 0) 5 b5.o ?_ ?_;(exact eC ep);(exact b2.o);(exact Ae C.o J);intro x6 m6 y6;rw[vK _ k ep C.o J] at m6;have d5:=bZ (vJ er.o y6);have cl:=bZ (ck.o.keep y6 b4.o);have t0:x6.cell? (U b 0)=some (.pointer (V bd)):=(cl.o.cell 0).trans rfl;have e9:=bZ (ej m6.o);replace KR:=bZ (KR.o.trans y6);clear y6 m6 b5 b2))
  clear s3;have dl:=a3.o.keep d5.o (by simp) (by simp);have e4:wc.heap.size≠bd:=by have:=a3.o.d.lt;omega
  have K:=eg.o;have HW:=jd x6 bd bs s' ((H:Int)+(j:Int)) (V wc.heap.size) (bq (d.take k) ep) 64 64 (nt (by rw[C.o];exact J)) dl e9.o (fun _ a ha=>by cases ha;exact e4) (C9 _) K.1 (by have:=a2.o;have:=ak.o;omega);have c8:=de s' ((H:Int)+(j:Int)) (bq (d.take k) ep) K.1;have fd:j<D.length:=by have:=ak.o;omega
  have e3:D.length - j=(D.length - (j+1))+1:=by omega
  have b8:=cr.o;rw[e3] at b8;have b6:((H+j:Nat):Int)=(H:Int)+(j:Int):=by omega
  have Y:((wr s' ((H:Int)+(j:Int)) (bq (d.take k) ep)).2=0->wrs s H ep D.length D=wrs (wr s' ((H:Int)+(j:Int)) (bq (d.take k) ep)).1 (H+(j+1)) ep (D.length - (j+1)) (d.drop k))/\
   ((wr s' ((H:Int)+(j:Int)) (bq (d.take k) ep)).2≠0->wrs s H ep D.length D=wr s' ((H:Int)+(j:Int)) (bq (d.take k) ep)):=by
   rw[c7.o.1,c7.o.2,<-b6,b8]
   exact⟨fun h=>pF b7 h,fun h=>mm b7 h⟩
  generalize wr s' ((H:Int)+(j:Int)) (bq (d.take k) ep)=q at*;replace HW:=bZ HW;replace Y:=bZ Y;replace c8:=bZ c8;replace K:=bZ K;clear b8 e3 b6 dl e9 b3 p a4 KR b4;go_wp2_with fail;refine HW.o.mono ?_;rintro e x7 ⟨rfl,b0,k7⟩;clear HW t0;have cq:=ac.o.2;have cs:gB∉[bd,bs]:=by
   obtain⟨f,hc⟩:=cq _ rfl;have h1:=hc.ne_ a3.o.d (by decide);have h2:=hc.ne_ a3.o.m (by decide);simp;exact⟨h1,h2⟩
  have ch:aa [bd,bs] wc x7:=d5.o.nil.trans k7;have cn:Z (Bts x7 (some (U gB oB)) d/\∃f,Blk x7 gB 5 f):=bZ ⟨ac.o.1.keep ch (by intro a ha;cases ha;exact cs),by obtain⟨f,hc⟩:=cq _ rfl;exact⟨f,hc.keep ch cs⟩⟩;have ba:=bZ (an.o.trans ch);replace b0:=bZ b0;clear ch k7 d5 cq cs ac a3 cl er ck;by_cases bb:q.2=0
  ·have fr:(q.2 !=0)=false:=by simp[bb]
   have a9:=bZ (Y.o.1 bb);have ew:IntKind.i64.wrap ((H:Int)+(j:Int)+1)=(H:Int)+(j:Int)+1:=C0 _ (by have:=a2.o;have:=ak.o;omega);by_cases ey:c5=k
   ·go_wp2_with fail;go_roundw
    case rel=>
     have f2:=a2.o;have e6:=ak.o;refine⟨j+1,l - k,0,q.1,d.drop k,_,?_,rfl,bZ (by rw[Da,W.o]),?_,?_,?_,?_,bZ (by omega),?_,b0,bZ (by have:=c8.o;have:=K.o;omega),a9,ba⟩
     ·exact congrArg (Value.int .i64) (by omega)
     ·omega
     ·simp[maxLen];try omega
     ·omega
     ·omega
     refine bZ ⟨?_,fun a ha=>by cases ha;exact cn.o.2⟩;exact .inl (DB (by rw[W.o];omega))
    simp[lenOf];omega
   go_wp2_with fail;go_roundw
   case rel=>
    have f2:=a2.o;have e6:=ak.o;refine⟨j+1,l - k,c5 - k,q.1,d.drop k,_,?_,rfl,bZ (by rw[Da,W.o]),?_,?_,?_,?_,bZ (by omega),?_,b0,bZ (by have:=c8.o;have:=K.o;omega),a9,ba⟩
    ·exact congrArg (Value.int .i64) (by omega)
    ·omega
    ·simp[maxLen];try omega
    ·omega
    ·omega
    refine bZ ⟨?_,fun a ha=>by cases ha;exact cn.o.2⟩;have:=cn.o.1.cutw (c:=c5) (k:=k) (by rw[W.o];exact fl);rw[if_neg ey] at this;exact this
   simp[lenOf];omega
  have fr:(q.2 !=0)=true:=by simp[bb]
  have a9:=bZ (Y.o.2 bb);go_wp2_with fail;go_ret;unfold iq;rw[a9.o,if_neg bb];have e7:aa [bd,bs] w x7:=(kd.o.trans ke.o).nil.trans ba.o;refine⟨rfl,b0.o,h.o.keep e7 ?_ ?_,e7.mono (fun x hx=>.inl (by simp at hx;simp;omega))⟩
  ·simp;exact⟨v,y⟩
  intro g f hB _;have h1:=hB.ne_ da.o.d (by decide);have h2:=hB.ne_ da.o.m (by decide);simp;exact⟨h1,h2⟩
end
end Wa
end Go.Proofs.YtmlmfpikncogpaaGreat
