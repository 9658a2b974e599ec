import Derived.Test.YtmlmfpikncogpaaGreatL07
namespace Go.Proofs.YtmlmfpikncogpaaGreat
open Go.RowKit
set_option linter.unusedSimpArgs false
set_option linter.unusedVariables false
set_option maxRecDepth 100000
set_option maxHeartbeats 16000000
namespace Sn
section
open Go.RowKit Dk
def iL (d:List UInt8) (j:Nat):List UInt8:=(d.drop (64*j)).take 64
theorem lT (d:List UInt8) (j:Nat):iL (d.drop 64) j=iL d (j+1):=by
 unfold iL;rw[Eo,show 64+64*j=64*(j+1) by omega]
theorem lS (d:List UInt8):iL d 0=d.take 64:=by
 unfold iL;rw[Nat.mul_zero,EE]
structure Cy (s:St) (i:Nat) (d:List UInt8) (q:St×Int):Prop where
 ok:q.2=0
 down:q.1.down=false
 n:q.1.n=s.n
 len:q.1.mem.length=64*s.n
 bytes:q.1.bytes=s.bytes
 at_:∀j,64*j<d.length->sec q.1 (i+j)=pad (iL d j)
 off:∀k,k<i\/i+(d.length+63)/64<=k->sec q.1 k=sec s k
 left:s.left=0->q.1.left=0
 writes:q.1.writes=s.writes+((d.length+63)/64:Nat)
structure Cw (s:St) (i:Nat) (d:List UInt8) (q:St×Int):Prop where
 err:q.2=15
 down:q.1.down=true
 n:q.1.n=s.n
 len:q.1.mem.length=64*s.n
 off:∀k,k<i\/i+(d.length+63)/64<=k->sec q.1 k=sec s k
 left:s.left≠0
theorem oU:∀(f:Nat) (s:St) (i:Nat) (d:List UInt8),s.down=false->s.mem.length=64*s.n->d.length<=f->64*i+d.length<=64*s.n->Cy s i d (sws s i f d)\/Cw s i d (sws s i f d)
 | 0,s,i,d,h1,h3,h4,h5=>by
  have:d=[]:=Dh (by omega);subst this;exact .inl ⟨rfl,h1,rfl,h3,rfl,fun j u=>by simp at u,fun k _=>rfl,fun h=>h,by show s.writes=s.writes+((0+63)/64:Nat);simp⟩
 | f+1,s,i,d,h1,h3,h4,h5=>by
  by_cases t:d=[]
  ·subst t;rw[gX];exact .inl ⟨rfl,h1,rfl,h3,rfl,fun j u=>by simp at u,fun k _=>rfl,fun h=>h,by show s.writes=s.writes+((0+63)/64:Nat);simp⟩
  have B:0<d.length:=E5.2 t;have z:i<s.n:=by omega
  have m:(pad (d.take 64)).length=64:=jg (by rw[CY];omega);have x:i*64+64<=s.mem.length:=by omega
  by_cases g:s.left=1
  ·have p:=mn (s:=s) (i:=i) (b:=pad (d.take 64)) h1 g z m;rw[gY t (by rw[p];show (15:Int)≠0;decide),p];right;have y:((pad (d.take 64)).take s.bytes.toNat).length<=64:=by rw[CY];omega
   have l:(splice s.mem (64*i) ((pad (d.take 64)).take s.bytes.toNat)).length=s.mem.length:=length_splice _ _ _ (by omega);exact⟨rfl,rfl,rfl,by show (splice _ _ _).length=_;rw[l];exact h3,fun k v=>dH s i k _ y x (by omega),by omega⟩
  have p:=tO (s:=s) (i:=i) (b:=pad (d.take 64)) h1 g z m;rw[jK t (by rw[p]),p];have l:(splice s.mem (64*i) (pad (d.take 64))).length=s.mem.length:=length_splice _ _ _ (by rw[m];omega);have c:=oU f { s with mem:=splice s.mem (64*i) (pad (d.take 64)),left:=if 1<s.left then s.left - 1 else s.left,writes:=s.writes+1 } (i+1) (d.drop 64) h1 (by show (splice _ _ _).length=_;rw[l];exact h3)
   (by rw[Da];omega) (by rw[Da];show 64*(i+1)+(d.length - 64)<=64*s.n;omega)
  have r:=eG s i (pad (d.take 64)) s.down (if 1<s.left then s.left - 1 else s.left) (s.writes+1) m x;have q:=fun k v=>df s i k (pad (d.take 64)) s.down (if 1<s.left then s.left - 1 else s.left) (s.writes+1) m x v;rcases c with c | c
  ·left;have A:=c.writes;have o:=c.at_;have a:=c.off;rw[Da] at o a A;refine⟨c.ok,c.down,c.n,c.len,c.bytes,fun j u=>?_,fun k v=>?_,fun w=>c.left (by show (if 1<s.left then s.left - 1 else s.left)=0;rw[if_neg (by omega)];exact w),?_⟩
   ·cases j with
    | zero=>
     have e:=(a i (.inl (by omega))).trans r;rw[<-lS] at e;exact e
    | succ j=>
     have e:=o j (by omega);rw[lT] at e;rw[show i+(j+1)=i+1+j by omega];exact e
   ·exact(a k (by omega)).trans (q k (by omega))
   dsimp only at A ⊢;omega
  right;have a:=c.off;rw[Da] at a;exact⟨c.err,c.down,c.n,c.len,fun k v=>(a k (by omega)).trans (q k (by omega)),by
   have:=c.left;intro w;apply this;show (if 1<s.left then s.left - 1 else s.left)=0;rw[if_neg (by omega)];exact w⟩
structure sd (s:St) (r ep:Nat) (b:List UInt8):Prop where
 head:sec s (1+r)=pad (hdr ep b)
 body:∀j,64*j<b.length->sec s (aS s.n r+j)=pad (iL b j)
 fit:b.length<=64*area s.n
theorem wW (ep:Nat) (b:List UInt8):(hdr ep b).length=16:=by
 unfold hdr;rw[CU,CU,bX,bX,bX]
theorem Am {ep:Nat} (b:List UInt8) (h:ep<4294967296):hEp (pad (hdr ep b))=ep:=by
 unfold hEp pad hdr;rw[Dd,Dd,DS (bX 4 ep),mO];exact Nat.mod_eq_of_lt h
theorem yA (ep:Nat) {b:List UInt8} (h:b.length<4294967296):hLen (pad (hdr ep b))=b.length:=by
 unfold hLen pad hdr;rw[Dd,Dd,Ei (bX 4 ep),DS (bX 4 _),mO];exact Nat.mod_eq_of_lt h
theorem yz (ep:Nat) (b:List UInt8):hSum (pad (hdr ep b))=crc b:=by
 unfold hSum pad hdr;rw[Dd,Ei (by rw[CU,bX,bX]),DS (bX 8 _),mO];exact Nat.mod_eq_of_lt (yV b)
theorem oR (s:St):∀(k a:Nat) (b:List UInt8),(∀j,64*j<b.length->sec s (a+j)=pad (iL b j))->b.length<=64*k->(cat s a k).take b.length=b
 | 0,a,b,h,hl=>by
  obtain rfl:=Dh (by omega:b.length=0);rfl
 | k+1,a,b,h,hl=>by
  by_cases f:b=[]
  ·subst f;rfl
  have d:=h 0 (by have:=E5.2 f;omega);rw[Fg,lS] at d;show (sec s a++cat s (a+1) k).take b.length=b;rw[d];by_cases c:b.length<=64
  ·rw[C6 c,pad,Dd,ET]
  have e:pad (b.take 64)=b.take 64:=by
   unfold pad;rw[CY,Es (by omega)];simp
  have g:=oR s k (a+1) (b.drop 64) (fun j i=>by
   rw[Da] at i;rw[lT,show a+1+j=a+(j+1) by omega];exact h (j+1) (by omega)) (by rw[Da];omega)
  rw[Da] at g;rw[e,List.take_append,CY,Es (by omega),g,Eu,Nat.min_eq_right (by omega),Du]
theorem mV {s:St} {ep:Nat} {b:List UInt8} (h:bad s=0) (a:sd s (root s) ep b) (f:0<ep) (c:ep<4294967296) (d:b.length<4294967296):dt s=(b,ep,0):=by
 have e:=oR s (area s.n) (aS s.n (root s)) b a.body a.fit;unfold dt;rw[if_neg (by omega),a.head,Am b c,yA ep d,yz,if_neg (by omega),if_neg (by have:=a.fit;omega),e,if_neg (by simp)]
theorem sF {s:St} (h:bad s=0) (a:hEp (sec s (1+root s))=0):dt s=([],0,4):=by
 unfold dt;rw[if_neg (by omega),if_pos a]
structure Cu (s:St) (i:Nat) (b:List UInt8) (q:St×Int):Prop where
 ok:q.2=0
 down:q.1.down=false
 n:q.1.n=s.n
 len:q.1.mem.length=64*s.n
 bytes:q.1.bytes=s.bytes
 at_:sec q.1 i=b
 off:∀k,k≠i->sec q.1 k=sec s k
 left:s.left=0->q.1.left=0
 writes:q.1.writes=s.writes+1
structure Cs (s:St) (i:Nat) (b:List UInt8) (q:St×Int):Prop where
 err:q.2=15
 down:q.1.down=true
 n:q.1.n=s.n
 len:q.1.mem.length=64*s.n
 at_:∃z,sec q.1 i=b.take z++(sec s i).drop (b.take z).length
 off:∀k,k≠i->sec q.1 k=sec s k
 left:s.left≠0
theorem qE {s:St} {i:Nat} {b:List UInt8} (g:s.down=false) (h:s.mem.length=64*s.n) (j:i<s.n) (e:b.length=64):Cu s i b (wr s i b)\/Cs s i b (wr s i b):=by
 have f:i*64+64<=s.mem.length:=by omega
 by_cases a:s.left=1
 ·rw[mn g a j e];right;have d:(b.take s.bytes.toNat).length<=64:=by rw[CY];omega
  have c:(splice s.mem (64*i) (b.take s.bytes.toNat)).length=s.mem.length:=length_splice _ _ _ (by omega);exact⟨rfl,rfl,rfl,by show (splice _ _ _).length=_;rw[c];exact h,⟨_,iu s i _ d f⟩,fun k m=>dH s i k _ d f (by omega),by omega⟩
 rw[tO g a j e];left;have c:(splice s.mem (64*i) b).length=s.mem.length:=length_splice _ _ _ (by omega);exact⟨rfl,g,rfl,by show (splice _ _ _).length=_;rw[c];exact h,rfl,eG s i b _ _ _ e f,fun k m=>df s i k b _ _ _ e f (by omega),
  fun l=>by show (if 1<s.left then s.left - 1 else s.left)=0;rw[if_neg (by omega)];exact l,rfl⟩
structure zp (s:St) (ep:Nat) (b:List UInt8) (q:St×Int):Prop where
 ok:q.2=0
 down:q.1.down=false
 n:q.1.n=s.n
 len:q.1.mem.length=64*s.n
 root_:root q.1=1 - root s
 slot:sd q.1 (1 - root s) ep b
 left:s.left=0->q.1.left=0
 writes:q.1.writes=s.writes+((b.length+63)/64+2:Nat)
structure Be (s:St) (ep:Nat) (b:List UInt8) (q:St×Int):Prop where
 err:q.2=15
 down:q.1.down=true
 n:q.1.n=s.n
 len:q.1.mem.length=64*s.n
 left:s.left≠0
 or_:(root q.1=root s/\sec q.1 (1+root s)=sec s (1+root s)/\∀j,j<area s.n->sec q.1 (aS s.n (root s)+j)=sec s (aS s.n (root s)+j))\/(root q.1=1 - root s/\sd q.1 (1 - root s) ep b)
theorem ll {s:St} (h:bad s=0):s.down=false/\7<=s.n/\s.n<=65536/\root s<=1:=by
 unfold bad at h;cases c:s.down<;>rw[c] at h<;>simp at h
 by_cases a:s.n<7\/65536<s.n
 ·rw[if_pos a] at h;cases h
 rw[if_neg a] at h;by_cases b:1<root s
 ·rw[if_pos b] at h;cases h
 exact⟨rfl,by omega,by omega,by omega⟩
theorem ql {s:St} (h:s.down=false) (a:7<=s.n) (b:s.n<=65536) (c:root s<=1):bad s=0:=by
 unfold bad;rw[if_neg (by rw[h];decide),if_neg (by omega),if_neg (by omega)]
theorem pC {n r:Nat} (h:7<=n) (a:r<=1):3<=aS n r/\aS n r+area n<=n:=by
 unfold aS area
 split<;>omega
theorem tJ {n r:Nat} (a:r<=1):aS n r+area n<=aS n (1 - r)\/aS n (1 - r)+area n<=aS n r:=by
 unfold aS;rcases(by omega:r=0\/r=1) with rfl | rfl<;>simp<;>omega
theorem j3 {s:St} {ep:Nat} {b:List UInt8} (h:bad s=0) (K:s.mem.length=64*s.n) (Q:hEp (sec s (1+root s))<ep) (J:b.length<=64*area s.n):
 zp s ep b (bG s ep b)\/Be s ep b (bG s ep b):=by
  obtain⟨H,A,E,D⟩:=ll h;have O:=pC (r:=1 - root s) A (by omega);have P:=pC A D;have F:=tJ (n:=s.n) D;have v:bG s ep b=if (sws s (aS s.n (1 - root s)) b.length b).2≠0 then sws s (aS s.n (1 - root s)) b.length b else
   if (wr (sws s (aS s.n (1 - root s)) b.length b).1 ((1+(1 - root s):Nat):Int) (pad (hdr ep b))).2≠0 then wr (sws s (aS s.n (1 - root s)) b.length b).1 ((1+(1 - root s):Nat):Int) (pad (hdr ep b)) else
   wr (wr (sws s (aS s.n (1 - root s)) b.length b).1 ((1+(1 - root s):Nat):Int) (pad (hdr ep b))).1 0 (pad [UInt8.ofNat (1 - root s)]):=by
   unfold bG
   rw[if_neg (by omega),if_neg (by omega),if_neg (by omega)]
  rw[v];have x:=oU b.length s (aS s.n (1 - root s)) b H K (C9 _) (by omega);generalize L:sws s (aS s.n (1 - root s)) b.length b=q1 at x ⊢;rcases x with a | f
  ·rw[if_neg (by rw[a.ok];simp)];have t:(pad (hdr ep b)).length=64:=jg (by rw[wW];omega);have y:=qE (s:=q1.1) (i:=1+(1 - root s)) (b:=pad (hdr ep b)) a.down (by rw[a.n];exact a.len) (by rw[a.n];omega) t;generalize M:wr q1.1 ((1+(1 - root s):Nat):Int) (pad (hdr ep b))=q2 at y ⊢;rcases y with c | g
   ·rw[if_neg (by rw[c.ok];simp)];have u:(pad [UInt8.ofNat (1 - root s)]).length=64:=jg (by simp);have q:=qE (s:=q2.1) (i:=0) (b:=pad [UInt8.ofNat (1 - root s)]) c.down (by rw[c.n];have:=c.len;exact this) (by rw[c.n,a.n];omega) u;rw[show ((0:Nat):Int)=0 from rfl] at q;generalize N:wr q2.1 0 (pad [UInt8.ofNat (1 - root s)])=q3 at q ⊢;have e:(∀k,k≠0->sec q3.1 k=sec q2.1 k)->q3.1.n=s.n->sd q3.1 (1 - root s) ep b:=fun C B=>by
     refine⟨?_,fun j p=>?_,by rw[B];exact J⟩
     ·rw[C _ (by omega)];exact c.at_
     rw[B,C _ (by omega),c.off _ (by omega)];exact a.at_ j p
    rcases q with m | l
    ·left;have d:q3.1.n=s.n:=m.n.trans (c.n.trans a.n);refine⟨m.ok,m.down,d,by rw[m.len,c.n,a.n],?_,e m.off d,fun o=>m.left (c.left (a.left o)),by rw[m.writes,c.writes,a.writes];omega⟩;show ((sec q3.1 0).getD 0 0).toNat=_;rw[m.at_];show (UInt8.ofNat (1 - root s)).toNat=_;rw[Eg];omega
    right;have d:q3.1.n=s.n:=l.n.trans (c.n.trans a.n);refine⟨l.err,l.down,d,by rw[l.len,c.n,a.n],fun o=>l.left (c.left (a.left o)),?_⟩;obtain⟨z,w⟩:=l.at_;cases z with
    | zero=>
     left;rw[EY] at w;refine⟨?_,?_,fun j p=>?_⟩
     ·unfold root;rw[w,Dm,D6,EE,c.off 0 (by omega),a.off 0 (.inl (by omega))]
     ·rw[l.off _ (by omega),c.off _ (by omega),a.off _ (.inl (by omega))]
     rw[l.off _ (by omega),c.off _ (by omega),a.off _ (by omega)]
    | succ z=>
     right;refine⟨?_,e l.off d⟩;show ((sec q3.1 0).getD 0 0).toNat=_;rw[w];show (UInt8.ofNat (1 - root s)).toNat=_;rw[Eg];omega
   rw[if_pos (by rw[g.err];decide)];right;refine⟨g.err,g.down,g.n.trans a.n,by rw[g.len,a.n],fun o=>g.left (a.left o),.inl ⟨?_,?_,fun j p=>?_⟩⟩
   ·unfold root;rw[g.off 0 (by omega),a.off 0 (.inl (by omega))]
   ·rw[g.off _ (by omega),a.off _ (.inl (by omega))]
   rw[g.off _ (by omega),a.off _ (by omega)]
  rw[if_pos (by rw[f.err];decide)];right;refine⟨f.err,f.down,f.n,f.len,f.left,.inl ⟨?_,?_,fun j p=>?_⟩⟩
  ·unfold root;rw[f.off 0 (.inl (by omega))]
  ·rw[f.off _ (.inl (by omega))]
  rw[f.off _ (by omega)]
theorem pB {s t:St}:∀(k a:Nat),(∀j,j<k->sec t (a+j)=sec s (a+j))->cat t a k=cat s a k
 | 0,_,_=>rfl
 | k+1,a,h=>by
  show sec t a++cat t (a+1) k=sec s a++cat s (a+1) k;have b:sec t a=sec s a:=h 0 (by omega);have c:=pB (s:=s) (t:=t) k (a+1) (fun j d=>by
   rw[show a+1+j=a+(j+1) by omega];exact h (j+1) (by omega))
  rw[b,c]
theorem mW {s t:St} (f:bad s=0) (g:bad t=0) (d:t.n=s.n) (e:root t=root s) (c:sec t (1+root s)=sec s (1+root s))
 (a:∀j,j<area s.n->sec t (aS s.n (root s)+j)=sec s (aS s.n (root s)+j)):dt t=dt s:=by
  have b:=pB (s:=s) (t:=t) (area s.n) (aS s.n (root s)) a;unfold dt;rw[if_neg (by rw[g];simp),e,d,c,b]
  conv=>rhs;rw[if_neg (by rw[f];simp)]
theorem sG {s:St} {ep:Nat} {b:List UInt8} {q:St×Int} (h:bad s=0) (a:zp s ep b q) (e:0<ep) (f:ep<4294967296) (g:b.length<4294967296):bad q.1=0/\dt q.1=(b,ep,0):=by
 obtain⟨j,i,c,k⟩:=ll h;have d:bad q.1=0:=ql a.down (by rw[a.n];exact i) (by rw[a.n];exact c) (by rw[a.root_];omega);exact⟨d,mV d (by rw[a.root_];exact a.slot) e f g⟩
theorem sE {s:St} {ep:Nat} {b:List UInt8} {q:St×Int} (h:bad s=0) (c:Be s ep b q) (g:0<ep) (i:ep<4294967296) (j:b.length<4294967296):
 bad (bB q.1)=0/\(dt (bB q.1)=dt s\/dt (bB q.1)=(b,ep,0)):=by
  obtain⟨m,l,e,o⟩:=ll h;have f:bad (bB q.1)=0:=ql rfl (by show 7<=q.1.n;rw[c.n];exact l) (by show q.1.n<=65536;rw[c.n];exact e) (by
   show root q.1<=1;rcases c.or_ with ⟨h,_⟩ | ⟨h,_⟩<;>omega)
  refine⟨f,?_⟩;rcases c.or_ with ⟨d,a,k⟩ | ⟨d,a⟩
  ·exact .inl (mW h f c.n d a k)
  right;refine mV f ?_ g i j;show sd (bB q.1) (root q.1) ep b;rw[d];exact⟨a.head,a.body,a.fit⟩
end
end Sn
namespace Wa
section
open Go.RowKit Dk
def gQ (n:Nat):List UInt8:=[UInt8.ofNat (n/16777216),UInt8.ofNat (n/65536),UInt8.ofNat (n/256),UInt8.ofNat n]
def num (b:List UInt8):Nat:=(b.getD 0 0).toNat*16777216+(b.getD 1 0).toNat*65536+(b.getD 2 0).toNat*256+(b.getD 3 0).toNat
theorem eC (n:Nat):(gQ n).length=4:=rfl
theorem nH {n:Nat} (h:n<4294967296) (r:List UInt8):num (gQ n++r)=n:=by
 simp only[num,gQ,D3,Dm,List.getD_cons_zero,List.getD_cons_succ,Eg];omega
theorem sN (b:List UInt8):num b<4294967296:=by
 unfold num;have a:=(b.getD 0 0).toNat_lt;have c:=(b.getD 1 0).toNat_lt;have d:=(b.getD 2 0).toNat_lt;have e:=(b.getD 3 0).toNat_lt;omega
theorem xW (b:List UInt8) (k:Nat) (a:4<=k):num (b.take k)=num b:=by
 simp only[num,Ec,Dx,show (0<k)=True by simp;omega,show (1<k)=True by simp;omega,show (2<k)=True by simp;omega,show (3<k)=True by simp;omega,if_true]
def bq (a:List UInt8) (ep:Nat):List UInt8:=a++List.replicate (59 - a.length) 0++[UInt8.ofNat a.length]++gQ ep
def cnt (b:List UInt8):Nat:=(b.getD 59 0).toNat
def epo (b:List UInt8):Nat:=num (b.drop 60)
theorem nt {a:List UInt8} {ep:Nat} (h:a.length<=59):(bq a ep).length=64:=by
 simp only[bq,CU,DG,DE,eC];omega
theorem nu {a:List UInt8} {ep:Nat} (h:a.length<=59):cnt (bq a ep)=a.length:=by
 simp only[cnt,bq,Ec];rw[Dd,Dd,<-Dd,Dv (by simp;omega)];simp only[CU,DG];rw[show 59 - (a.length+(59 - a.length))=0 by omega];simp only[List.singleton_append,D5,Option.getD_some,Eg];omega
theorem kj {a:List UInt8} {ep:Nat} (h:a.length<=59) (b:ep<4294967296):epo (bq a ep)=ep:=by
 unfold epo bq;rw[DI (by simp;omega),DB (by simp;omega)];have:=nH b [];simpa using this
theorem lD {a:List UInt8} {ep:Nat} (h:a.length<=59):(bq a ep).take a.length=a:=by
 unfold bq;rw[Dd,Dd,DS];rfl
def cT (S:Nat->List UInt8) (ep:Nat):Nat->Nat->List UInt8
 | 0,_=>[]
 | k+1,i=>
  if epo (S i)≠ep\/59<cnt (S i) then [] else (S i).take (cnt (S i))++(if cnt (S i)<59 then [] else cT S ep k (i+1))
def recs:Nat->List UInt8->List (List UInt8)
 | 0,_=>[]
 | f+1,s=>if s.length<4 then [] else if 16777216<num s\/s.length<num s+4 then [] else (s.drop 4).take (num s)::recs f (s.drop (num s+4))
def enc (r:List UInt8):List UInt8:=gQ r.length++r
def ez:List (List UInt8)->List UInt8
 | []=>[]
 | r::rs=>enc r++ez rs
theorem cQ (r:List UInt8):(enc r).length=r.length+4:=by
 simp only[enc,CU,eC];omega
theorem lU:∀a b,ez (a++b)=ez a++ez b
 | [],b=>rfl
 | r::a,b=>by
  show enc r++ez (a++b)=enc r++ez a++ez b;rw[lU,Dd]
theorem wt (a:List (List UInt8)) (r:List UInt8):ez (a++[r])=ez a++enc r:=by
 rw[lU];simp[ez]
theorem oY:∀(f g:Nat) (s:List UInt8),s.length<=f->s.length<=g->recs f s=recs g s
 | 0,0,s,_,_=>rfl
 | 0,g+1,s,h,_=>by
  unfold recs;rw[if_pos (by omega)]
 | f+1,0,s,_,h=>by
  unfold recs;rw[if_pos (by omega)]
 | f+1,g+1,s,h1,h2=>by
  unfold recs
  split
  ·rfl
  split
  ·rfl
  rw[oY f g _ (by rw[Da];omega) (by rw[Da];omega)]
def cg (s:List UInt8):List (List UInt8):=recs s.length s
theorem dg {s:List UInt8} (h:s.length<4):cg s=[]:=by
 unfold cg;cases a:s.length with
 | zero=>rfl
 | succ n=>unfold recs;rw[if_pos h]
theorem iK {s:List UInt8} (h:4<=s.length) (b:16777216<num s\/s.length<num s+4):cg s=[]:=by
 unfold cg;obtain⟨n,a⟩:∃n,s.length=n+1:=⟨s.length - 1,by omega⟩;rw[a];unfold recs;rw[if_neg (by omega),if_pos b]
theorem lR {s:List UInt8} (h:4<=s.length) (b:num s<=16777216) (c:num s+4<=s.length):cg s=(s.drop 4).take (num s)::cg (s.drop (num s+4)):=by
 unfold cg;obtain⟨n,a⟩:∃n,s.length=n+1:=⟨s.length - 1,by omega⟩;rw[a];show (if s.length<4 then [] else if 16777216<num s\/s.length<num s+4 then [] else (s.drop 4).take (num s)::recs n (s.drop (num s+4)))=_;rw[if_neg (by omega),if_neg (by omega),oY n _ _ (by rw[Da];omega) (C9 _)]
theorem nh (r rest:List UInt8) (h:r.length<=16777216):cg (enc r++rest)=r::cg rest:=by
 have a:num (enc r++rest)=r.length:=by
  unfold enc;rw[Dd,nH (by omega)]
 have b:(enc r++rest).length=r.length+4+rest.length:=by rw[CU,cQ]
 rw[lR (by omega) (by omega) (by omega),a]
 congr 1
 ·unfold enc;rw[Dd,Ei (by rfl),DS (by rfl)]
 rw[Ei (by rw[cQ])]
theorem fT:∀(rs:List (List UInt8)) (rest:List UInt8),(∀r∈rs,r.length<=16777216)->cg (ez rs++rest)=rs++cg rest
 | [],rest,_=>rfl
 | r::rs,rest,h=>by
  show cg (enc r++ez rs++rest)=r::(rs++cg rest);rw[Dd,nh _ _ (h r (by simp)),fT rs rest (fun x a=>h x (by simp[a]))]
theorem sL (r:List UInt8) (k:Nat) (d:k<r.length+4) (b:r.length<4294967296):cg ((enc r).take k)=[]:=by
 have a:((enc r).take k).length=k:=by rw[CY,cQ];omega
 by_cases c:k<4
 ·exact dg (by omega)
 refine iK (by omega) (.inr ?_);rw[xW _ _ (by omega)];have:=nH b r;unfold enc;rw[this];unfold enc at a;omega
def aK (L:List UInt8) (j:Nat):List UInt8:=(L.drop (59*j)).take 59
theorem dd (L:List UInt8) (j:Nat):(aK L j).length<=59:=by
 unfold aK;rw[CY];omega
theorem gP (L:List UInt8) (j:Nat):(aK L j).length=min 59 (L.length - 59*j):=by
 unfold aK;rw[CY,Da]
def su (S:Nat->List UInt8) (first a ep:Nat) (L:List UInt8):Prop:=
 ∀j,j<a->if 59*j<L.length then S (first+j)=bq (aK L j) ep else epo (S (first+j))≠ep
theorem oV {S:Nat->List UInt8} {first a ep:Nat} {L:List UInt8} (h:su S first a ep L) (d:L.length<=59*a) (e:ep<4294967296):
 ∀k j,j+k=a->cT S ep k (first+j)=L.drop (59*j)
 | 0,j,hj=>by
  have:L.length<=59*j:=by
   have:j=a:=by omega
   subst this;exact d
  rw[DB this];rfl
 | k+1,j,hj=>by
  have c:=h j (by omega);unfold cT;by_cases b:59*j<L.length
  ·rw[if_pos b] at c;rw[c,kj (dd _ _) e,nu (dd _ _),lD (dd _ _)];have g:=gP L j;rw[if_neg (by omega)];by_cases f:(aK L j).length<59
   ·rw[if_pos f,DA];unfold aK;rw[C6 (by rw[Da];omega)]
   rw[if_neg f];have i:=oV h d e k (j+1) (by omega);rw[show first+j+1=first+(j+1) by omega,i];unfold aK;rw[show 59*(j+1)=59*j+59 by omega,<-Eo,Du]
  rw[if_neg b] at c;rw[if_pos (.inl c),DB (by omega)]
theorem pM {S:Nat->List UInt8} {first a ep:Nat} {L:List UInt8} (h:su S first a ep L) (b:L.length<=59*a) (c:ep<4294967296):cT S ep a first=L:=by
 have:=oV h b c a 0 (by omega);simpa using this
theorem AK {n:Nat} (h:n<4294967296):((gQ n).map bv).toArray=#[.int .u8 ((n:Int)/16777216),.int .u8 ((n:Int)/65536%256),.int .u8 ((n:Int)/256%256),.int .u8 ((n:Int)%256)]:=by
 simp only[gQ,bv,D1,Er,Eg]
 congr 5<;>first | omega | (push_cast;omega)
def zu (l:List UInt8) (w:World) (e:Ending) (w':World):Prop:=
 e=.returned (.slice (V w.heap.size) l.length l.length)/\Blk w' w.heap.size 5 (l.map bv).toArray/\aa [] w w'
theorem kh (w:World) (n:Nat) (b:n<4294967296):Calls Tryz.prog 78 #[.int .u32 n] w (zu (gQ n) w):=by
 have c:(0:Int)<=(n:Int):=by omega
 have d:(n:Int)<4294967296:=by omega
 have a:=bZ (AK b);go_enter Tryz.func78,Tryz.ntmps78;go_wp2_with fail;go_ret;refine⟨rfl,?_,(aa.refl _ _).alloc _⟩;rw[a.o];exact Blk.new _ _ _
theorem BN (l:List UInt8) (h:4<=l.length):∃a b c d r,l=a::b::c::d::r:=by
 match l,h with
 | a::b::c::d::r,_=>exact⟨a,b,c,d,r,rfl⟩
theorem Bx (a b c d:UInt8):bits .or .u32 (bits .or .u32 (bits .or .u32 (((a.toNat:Nat):Int)%4294967296*16777216%4294967296) (((b.toNat:Nat):Int)%4294967296*65536%4294967296)) (((c.toNat:Nat):Int)%4294967296*256%4294967296)) (((d.toNat:Nat):Int)%4294967296)
 =((a.toNat*16777216+b.toNat*65536+c.toNat*256+d.toNat:Nat):Int):=by
  have e:=a.toNat_lt;have f:=b.toNat_lt;have g:=c.toNat_lt;have h:=d.toNat_lt;generalize a.toNat=A at*;generalize b.toNat=B at*;generalize c.toNat=C at*;generalize d.toNat=D at*;rw[show ((A:Nat):Int)%4294967296*16777216%4294967296=((A*16777216:Nat):Int) by omega,show ((B:Nat):Int)%4294967296*65536%4294967296=((B*65536:Nat):Int) by omega,
   show ((C:Nat):Int)%4294967296*256%4294967296=((C*256:Nat):Int) by omega,show ((D:Nat):Int)%4294967296=(D:Int) by omega]
  rw[u32_or_nat _ _ (by omega) (by omega),nat_join 24 _ _ (by omega) (by omega),u32_or_nat _ _ (by omega) (by omega),nat_join 16 _ _ (by omega) (by omega),u32_or_nat _ _ (by omega) (by omega),nat_join 8 _ _ (by omega) (by omega)]
theorem dy (w:World) (A:Option Addr) (l:List UInt8) (n c:Nat) (k:Bts w A l) (t:l.length=n) (u:4<=n):
 Calls Tryz.prog 63 #[.slice A n c] w fun e w'=>e=.returned (.int .u32 (num l:Nat))/\∃m,w'=w.drewN m:=by
  obtain⟨b,d,f,i,r,rfl⟩:=BN l (by omega);rcases k with h | ⟨g,o,rfl,h⟩
  ·cases h
  have j:=h 0 b rfl;have p:=h 1 d rfl;have q:=h 2 f rfl;have s:=h 3 i rfl;rw[Fg] at j;clear h;unfold bv at*;have v:(3:Int)<n:=by omega
  have a:=bZ (Bx b d f i);go_enter Tryz.func63,Tryz.ntmps63;go_wp2_with fail;go_quiet (fail);go_wp2_with fail;go_ret;refine⟨?_,_,rfl⟩;exact congrArg (fun z=>Ending.returned (.int .u32 z)) a.o
def okR (n:Nat) (fi co:Int) (ep:Nat):Prop:=0<=fi/\1<=co/\fi+co<=n/\1<=ep
instance (n:Nat) (fi co:Int) (ep:Nat):Decidable (okR n fi co ep):=by unfold okR;infer_instance
structure lg (Z00:List Nat) (w:World) (bl bd:Nat) (fi co ep:Nat) (L:List UInt8) (rc:Nat):Prop where
 ex:∃A c,Blk w bl 169 #[.pointer (V bd),I fi,I co,.int .u32 ep,I L.length,.slice A (L.length%59) c,I rc]/\L.length%59<=c/\c<=maxLen/\
  Bts w A (L.drop (59*(L.length/59)))/\∀a,A=some a->a.block∉Z00/\∃cur,Blk w a.block 5 cur
 co1:co<=65536
 fi1:fi<=65536
 ep0:1<=ep
 ep1:ep<4294967296
 len:L.length<=59*co
 rc1:rc<=1000000
theorem lg.keep {d X:List Nat} {w w':World} {i m fi co ep o:Nat} {L:List UInt8} (h:lg d w i m fi co ep L o) (k:aa X w w') (t:i∉X) (n:∀g b,Blk w g 5 b->g∉d->g∉X):lg d w' i m fi co ep L o:=by
 obtain⟨⟨A,c,p,q,r,s,l⟩,u,v,x,y,z,B⟩:=h;refine⟨⟨A,c,p.keep k t,q,r,s.keep k ?_,?_⟩,u,v,x,y,z,B⟩
 ·intro a j;obtain⟨f,b,e⟩:=l a j;exact n _ b e f
 intro a j;obtain⟨f,b,e⟩:=l a j;exact⟨f,b,e.keep k (n _ b e f)⟩
theorem lg.more {b:List Nat} {w:World} {f e fi co ep i:Nat} {L:List UInt8} (h:lg b w f e fi co ep L i) {x:Nat} (y:w.heap.size<=x):lg (x::b) w f e fi co ep L i:=by
 obtain⟨⟨A,c,j,k,l,m,n⟩,q,r,s,t,u,v⟩:=h;refine⟨⟨A,c,j,k,l,m,?_⟩,q,r,s,t,u,v⟩;intro a o;obtain⟨p,d,g⟩:=n a o;have:=g.lt;exact⟨by simp;exact⟨by omega,p⟩,d,g⟩
def iO (n:Int):Int:=max (-1) (min (n - 4) 16777216)
theorem rE (a:List Nat) (w:World) (b f fi co ep g:Nat) (L:List UInt8) (h:lg a w b f fi co ep L g):
 Calls Tryz.prog 40 #[.pointer (V b)] w fun e w'=>e=.returned (I (iO (59*co - L.length:Int)))/\∃m,w'=w.drewN m:=by
  obtain⟨A,c,d,_⟩:=h.ex;have p:=d.cell;have l:=h.co1;have o:=h.len;clear h d;generalize L.length=n at*;have i:IntKind.i64.wrap (59*(co:Int))=59*(co:Int):=C0 _ (by omega);have j:IntKind.i64.wrap (59*(co:Int) - n)=59*(co:Int) - n:=C0 _ (by omega);have k:IntKind.i64.wrap (59*(co:Int) - n - 4)=59*(co:Int) - n - 4:=C0 _ (by omega);go_enter Tryz.func40,Tryz.ntmps40;go_wp2_with fail;go_quiet (fail);go_wp2_with fail
  all_goals
   go_ret;exact⟨congrArg (fun z=>Ending.returned (I z)) (by unfold iO;omega),_,rfl⟩
theorem eV (w:World) (h k:Nat) (s:St) (fi co:Int) (ep:Nat) (i:aZ w h k s) (b:ep<4294967296) (f:fi<=9223372036854775807) (d:co<=9223372036854775807):
 Calls Tryz.prog 61 #[.pointer (V h),I fi,I co,.int .u32 ep] w fun e w'=>e=.returned (.bool (decide (okR s.n fi co ep)))/\w=w':=by
  have c:=bZ (cU w h k s i);have g:=i.n;clear i;generalize s.n=n at*;obtain⟨r,j⟩:∃r,r=decide (okR n fi co ep):=⟨_,rfl⟩;rw[<-j];have a:=bZ j;clear j;by_cases m:0<=fi
  ·by_cases p:1<=co
   ·by_cases q:co<=n
    ·have l:IntKind.i64.wrap ((n:Int) - co)=(n:Int) - co:=C0 _ (by omega);by_cases t:fi<=n - co
     ·by_cases u:(1:Int)<=ep
      ·obtain rfl:r=true:=by rw[a.o];exact decide_eq_true (by unfold okR;omega)
       clear a b f d g;go_enter Tryz.func61,Tryz.ntmps61;go_wp2_with ((go_at_call 28;refine c.o.mono ?_;rintro e w1 ⟨rfl,rfl⟩));go_ret;exact⟨rfl,rfl⟩
      obtain rfl:r=false:=by rw[a.o];exact decide_eq_false (by unfold okR;omega)
      obtain rfl:ep=0:=by omega
      clear a b f d g;go_enter Tryz.func61,Tryz.ntmps61;go_wp2_with ((go_at_call 28;refine c.o.mono ?_;rintro e w1 ⟨rfl,rfl⟩));go_ret;exact⟨rfl,rfl⟩
     obtain rfl:r=false:=by rw[a.o];exact decide_eq_false (by unfold okR;omega)
     clear a b f d g;go_enter Tryz.func61,Tryz.ntmps61;go_wp2_with ((go_at_call 28;refine c.o.mono ?_;rintro e w1 ⟨rfl,rfl⟩));go_ret;exact⟨rfl,rfl⟩
    obtain rfl:r=false:=by rw[a.o];exact decide_eq_false (by unfold okR;omega)
    clear a b f d g;go_enter Tryz.func61,Tryz.ntmps61;go_wp2_with ((go_at_call 28;refine c.o.mono ?_;rintro e w1 ⟨rfl,rfl⟩));go_ret;exact⟨rfl,rfl⟩
   obtain rfl:r=false:=by rw[a.o];exact decide_eq_false (by unfold okR;omega)
   clear a b f d g;go_enter Tryz.func61,Tryz.ntmps61;go_wp2_with ((go_at_call 28;refine c.o.mono ?_;rintro e w1 ⟨rfl,rfl⟩));go_ret;exact⟨rfl,rfl⟩
  obtain rfl:r=false:=by rw[a.o];exact decide_eq_false (by unfold okR;omega)
  clear a b f d g;go_enter Tryz.func61,Tryz.ntmps61;go_wp2_with ((go_at_call 28;refine c.o.mono ?_;rintro e w1 ⟨rfl,rfl⟩));go_ret;exact⟨rfl,rfl⟩
theorem z9 (f:List Nat) (w:World) (d j:Nat) (s:St) (fi co ep:Nat) (g:aZ w d j s) (b:ep<4294967296) (h:okR s.n fi co ep):
 Calls Tryz.prog 55 #[.pointer (V d),I fi,I co,.int .u32 ep] w fun e w'=>e=.returned (.tuple #[.pointer (V w.heap.size),I 0])/\lg f w' w.heap.size d fi co ep [] 0/\aa [] w w':=by
  have l:=g.n;have i:=h;unfold okR at i;have c:=eV w d j s fi co ep g b (by omega) (by omega);rw[decide_eq_true h] at c;replace c:=bZ c;clear g h;go_enter Tryz.func55,Tryz.ntmps55;go_wp2_with fail;refine c.o.mono ?_;rintro e w1 ⟨rfl,rfl⟩;go_wp2_with fail;go_ret2;exact⟨rfl,⟨⟨none,0,Blk.new _ _ _,by simp,by simp[maxLen],.inl rfl,fun a k=>by cases k⟩,by omega,by omega,by omega,b,by simp,by omega⟩,(aa.refl _ _).alloc _⟩
end
end Wa
end Go.Proofs.YtmlmfpikncogpaaGreat
