import Derived.Lib.Bytealg
import Derived.Lib.IndexBytes
import Derived.Test.YtmlmfpikncogpaaGreatL07
namespace Go.Proofs.YtmlmfpikncogpaaGreat
open Go.RowKit
set_option linter.unusedSimpArgs false
set_option linter.unusedVariables false
set_option maxRecDepth 100000
set_option maxHeartbeats 16000000
theorem qj {a w:World} {g:Nat} {l:List UInt8} {n:Nat} (b:Blk w g 5 (l.map bv).toArray) (d:aa [] a w) (c:a.heap.size<=g) (e:l.length=n) (f:n<=maxLen):bC a none w (V g) n n l:=by
 subst e;refine⟨Sn.nC (base:=0) b (C3 _) f,d,fun x h=>?_,rfl⟩;have:x=g:=by simpa [fb] using h
 subst this;exact .inr c
theorem uR:∀(k x:Nat),be (k+1) x=UInt8.ofNat (x/256^k)::be k x
 | 0,x=>by show be 0 (x/256)++[UInt8.ofNat x]=_;simp[be]
 | k+1,x=>by
  show be (k+1) (x/256)++[UInt8.ofNat x]=_;rw[uR k];show UInt8.ofNat (x/256/256^k)::(be k (x/256)++[UInt8.ofNat x])=UInt8.ofNat (x/256^(k+1))::(be k (x/256)++[UInt8.ofNat x]);rw[Fh,Nat.pow_succ,EJ 256]
theorem xu (a j:Nat) (h:j<8):((List.replicate (8 - j) (0:UInt8)++be j a).set (7 - j) (UInt8.ofNat (a/256^j)))=List.replicate (8 - (j+1)) 0++be (j+1) a:=by
 rw[uR,show 8 - j=(8 - (j+1))+1 by omega,List.replicate_succ',Dd,EL _ _ (by rw[DG];omega),DG,show 7 - j - (8 - (j+1))=0 by omega];rfl
theorem ue (w:World) (n:Int) (F: -9223372036854775808<=n/\n<9223372036854775808):Calls Tryz.prog 145 #[I n] w (bx w none (Cod.num n)):=by
 have J:=uq n F;obtain⟨a,g⟩:∃a,a=Cod.un n:=⟨_,rfl⟩;rw[<-g] at J;have r:a<18446744073709551616:=by rw[g];exact Cod.tQ n
 replace g:=bZ g;go_enter Tryz.func145,Tryz.ntmps145;go_wp2_with (refine fR rfl 79 (.const (I 8)) (.const (I 8)) rfl 5 (.int .u8 0) 1 1 Tryz.underlying79 info5 .i64 .i64 8 8 rfl rfl (by omega) (by omega) (by omega) ?_;intro w1 e m _;replace m:=bZ m);have f:Z (Blk w1 w.heap.size 5 ((List.replicate (8 - 0) (0:UInt8)++be 0 a).map bv).toArray):=bZ (by have:=e.o;rw[show (Value.int .u8 0).cells=Array.replicate 1 (Value.int .u8 0) from rfl,dK 1 _ _ (by omega)] at this;simpa [be,bv] using this);clear e;go_loopw [3,5] (fun K c wr=>∃(j:Nat) (q:Int) (u:Nat),j<=8/\q+j=7/\c=I q/\K=.int .u64 (u:Int)/\Z (u=a/256^j)/\Z (Blk wr w.heap.size 5 ((List.replicate (8 - j) (0:UInt8)++be j a).map bv).toArray)/\Z (aa [] w wr)) (fun _ c _=>(intOf c+1).toNat)
 case atStart=>exact⟨0,7,a,by omega,by omega,rfl,rfl,bZ (by simp),f,m⟩
 obtain⟨j,q,u,N,x,rfl,rfl,y,d,s⟩:=hrel;clear m f;by_cases v:j<8
 ·obtain⟨i,C⟩:∃i:Nat,q=(i:Int):=⟨q.toNat,by omega⟩;subst C;have b:i=7 - j:=by omega
  have H:u<18446744073709551616:=by rw[y.o];exact Nat.lt_of_le_of_lt (Nat.div_le_self _ _) r
  have L:wr.cell? (U w.heap.size i)=some (.int .u8 0):=by
   rw[d.o.cell,b,DW,De,DC (by rw[DG];omega),List.getElem?_replicate,if_pos (by omega)];rfl
  have M:=d.o.frozen i;have B:(.int .u8 ((u:Int)%256):Value)=bv (UInt8.ofNat (a/256^j)):=by unfold bv;rw[Eg,<-y.o];congr 1
  have k:Z (Blk (wr.setCell (U w.heap.size i) (.int .u8 ((u:Int)%256))) w.heap.size 5 ((List.replicate (8 - (j+1)) (0:UInt8)++be (j+1) a).map bv).toArray):=bZ (by
   have:=d.o.set_ i (.int .u8 ((u:Int)%256));rw[B,b] at this ⊢;rw[<-xu a j v,EV];rwa [EK] at this)
  have t:=bZ (s.o.setCell (p:=(U w.heap.size i)) (.inr (C9 _)) (.int .u8 ((u:Int)%256)));have O:IntKind.i64.wrap ((i:Int) - 1)=(i:Int) - 1:=C0 _ (by omega);have z:Z (u/256=a/256^(j+1)):=bZ (by rw[y.o,Fh,Nat.pow_succ]);have D:(0:Int)<=(i:Int):=by omega
  have E:(i:Int)<8:=by omega
  clear B x;replace b:=bZ b;go_wp2_with fail;go_roundw
  case rel=>exact⟨j+1,(i:Int) - 1,u/256,by omega,by have:=b.o;omega,by go_num,by first | rfl | (congr 1),z,k,t⟩
  case measure=>simp[intOf]
 obtain rfl:j=8:=by omega
 obtain rfl:q= -1:=by omega
 have h:Z (bx w none (Cod.num n) (.returned (.slice (V w.heap.size) 8 8)) wr):=bZ (by
  have A:=d.o;rw[g.o] at A;exact⟨_,8,8,rfl,bZ (qj (l:=Cod.num n) A s.o (C9 _) (Cod.ag n) (by simp[maxLen]))⟩)
 clear d s;go_wp2_with fail;go_ret;exact h.o
theorem wA {r:List Val} {j:Nat} {v:Val} (h:r[j]? =some v):ca (r.take (j+1))=ca (r.take j)++cP v:=by
 rw[Dq,h,lV];simp[ca]
theorem oM {r:List Val} (h:∀v∈r,v.ok) (j:Nat):(ca (r.take j)).length<=18*r.length:=by
 have a:=(fF (r.take j) (fun v b=>h v (DD b))).2;rw[CY] at a;omega
theorem bC.kp0 {a w:World} {A:Option Addr} {n c:Nat} {l:List UInt8} (h:bC a none w A n c l):aa [] a w:=h.kp
def sr (w:World) (r:List Val) (e:Ending) (w':World):Prop:=∃A n c,e=.returned (.slice A n c)/\Z (bC w none w' A n c (ca r))
theorem s9 (w:World) (A:Option Addr) (l:List Val) (n c:Nat) (t:l.length=n) (B:ah w [] A l) (R:n<=10000) (x:∀v∈l,v.ok):
 Calls Tryz.prog 108 #[.slice A n c] w (sr w l):=by
  have a:=oM x;rw[t] at a;replace B:=bZ B;replace x:=bZ x;replace t:=bZ t;replace a:=bZ a;have u:=bZ (bC.nil w);go_enter Tryz.func108,Tryz.ntmps108;go_wp2_with fail;go_loopw [3,8] (fun z m wr=>∃(j h:Nat) (f:Option Addr) (i:Nat),j<=n/\m=I (j:Int)/\z=.slice f h i/\Z (bC w none wr f h i (ca (l.take j)))) (fun _ m _=>n - (intOf m).toNat)
  case atStart=>exact⟨0,0,none,0,C3 _,rfl,rfl,u⟩
  obtain⟨j,h,f,i,Q,rfl,rfl,b⟩:=hrel;by_cases D:j<n
  ·have M:(j:Int)<(n:Int):=by omega
   obtain⟨v,d⟩:∃v,l[j]? =some v:=⟨_,CT (by rw[t.o];exact D)⟩;obtain⟨g,off,rfl,P,T,W,X⟩:=(B.o.keep b.o.kp0 (by simp)) j v d;have H:=bZ (wA d);have F:=bZ (x.o v (CW d));have E:h<=1000000:=by have N:=b.o.len;have O:=a.o j;omega
   have y:aa [] wr (wr.alloc (.cells #[I v.k,I v.n,.string v.s] 60)):=(aa.refl [] wr).alloc _;have q:Z (Calls Tryz.prog 136 #[.slice f h i,jJ v] (wr.alloc (.cells #[I v.k,I v.n,.string v.s] 60)) (bx (wr.alloc (.cells #[I v.k,I v.n,.string v.s] 60)) f (ca (l.take j)++cP v))):=bZ (qr _ f h i _ v F.o (ab b.o.own y) E);unfold jJ at q;replace y:=bZ y;have S:IntKind.i64.wrap ((j:Int)+1)=(j:Int)+1:=C0 _ (by omega);clear d;go_wp2_with (refine q.o.mono ?_;rintro e w3 ⟨J,L,K,rfl,C⟩);have p:Z (bC w none w3 J L K (ca (l.take (j+1)))):=bZ (by rw[H.o];exact(b.o.keep y.o).then_ C.o);go_roundw
   case rel=>exact⟨j+1,L,J,K,by omega,by go_num,rfl,p⟩
   case measure=>simp[intOf];omega
  obtain rfl:j=n:=by omega
  have r:Z (sr w l (.returned (.slice f h i)) wr):=bZ ⟨f,h,i,rfl,by have:=b.o;rw[C6 (by rw[t.o];exact C9 _)] at this;exact bZ this⟩;go_wp2_with fail;go_ret;exact r.o
def aY (w:World) (A:Option Addr) (l:List Int):Prop:=∀i x,l[i]? =some x->∃g off,A=some (U g off)/\w.cell? (U g (off+i))=some (I x)
theorem aY.keep {w w':World} {A:Option Addr} {l:List Int} (h:aY w A l) (c:aa [] w w'):aY w' A l:=fun i x b=>by
 obtain⟨g,off,rfl,a⟩:=h i x b;exact⟨g,off,rfl,c.cellEq a (by simp)⟩
theorem uw (w:World) (A:Option Addr) (l:List Val) (n c:Nat) (X:l.length=n) (T:ah w [] A l) (hn:n<=10000) (hv:∀v∈l,v.ok) (C:Option Addr) (cols:List Int) (m d:Nat) (hm:cols.length=m) (S:aY w C cols) (a5:m<=10000):
 Calls Tryz.prog 127 #[.slice A n c,.slice C m d] w fun e w'=>(∃s:ByteArray,e=.returned (.string s)/\s.size<=1000000)/\Z (aa [] w w'):=by
  replace T:=bZ T;replace S:=bZ S;replace hv:=bZ hv;replace X:=bZ X;replace hm:=bZ hm;have P:=bZ (bC.nil w);go_enter Tryz.func127,Tryz.ntmps127;go_wp2_with fail;go_loopw [5,11] (fun R M wr=>∃(j y:Nat) (p:Option Addr) (E:Nat) (L:List UInt8),j<=m/\M=I (j:Int)/\R=.slice p y E/\y<=18*j/\Z (bC w none wr p y E L)) (fun _ M _=>m - (intOf M).toNat)
  case atStart=>exact⟨0,0,none,0,[],C3 _,rfl,rfl,C9 _,P⟩
  obtain⟨j,y,p,E,L,hj,rfl,rfl,a6,a⟩:=hrel;by_cases Y:j<m
  ·have a4:(j:Int)<(m:Int):=by omega
   obtain⟨x,Q⟩:∃x,cols[j]? =some x:=⟨_,CT (by rw[hm.o];exact Y)⟩;obtain⟨gc,oc,rfl,y0⟩:=(S.o.keep a.o.kp0) j x Q;have O:y<=1000000:=by omega
   have wj:IntKind.i64.wrap ((j:Int)+1)=(j:Int)+1:=C0 _ (by omega);clear Q;by_cases t:0<=x/\x<(n:Int)
   ·obtain⟨q,rfl⟩:∃q:Nat,x=(q:Int):=⟨x.toNat,by omega⟩;have hq:q<n:=by omega
    have a8:(q:Int)<(n:Int):=by omega
    have a7:(0:Int)<=(q:Int):=by omega
    clear t;obtain⟨v,K⟩:∃v,l[q]? =some v:=⟨_,CT (by rw[X.o];exact hq)⟩;obtain⟨g,off,rfl,hg,x0,x1,x2⟩:=(T.o.keep a.o.kp0 (by simp)) q v K;have f:=bZ (hv.o v (CW K));clear K;have i:aa [] wr (wr.alloc (.cells #[I 0,I 0,.string ⟨#[]⟩] 60)):=(aa.refl [] wr).alloc _;have a0:=i.cellEq x0 (by simp);have a1:=i.cellEq x1 (by simp);have a2:=i.cellEq x2 (by simp);have B:Z (∀W,aa [] wr W->Calls Tryz.prog 136 #[.slice p y E,.agg #[I v.k,I v.n,.string v.s]] W (bx W p (L++cP v))):=bZ (fun W k=>qr _ p y E _ v f.o (ab a.o.own k) O);replace i:=bZ i;go_wp2_with (refine(B.o _ ((aa.refl [] wr).alloc (.cells #[I v.k,I v.n,.string v.s] 60))).mono ?_;rintro e w3 ⟨D,z,F,rfl,r⟩);have b:Z (bC w none w3 D z F (L++cP v)):=bZ ((a.o.keep ((aa.refl [] wr).alloc (.cells #[I v.k,I v.n,.string v.s] 60))).then_ r.o);have u:z<=18*(j+1):=by
     have N:=b.o.len;have h2:=a.o.len;have h3:=(gM f.o).2;rw[CU] at N;omega
    go_roundw
    case rel=>exact⟨j+1,z,D,F,_,by omega,by go_num,rfl,u,b⟩
    case measure=>simp[intOf];omega
   have f:Val.ok ⟨0,0,⟨#[]⟩⟩:=.inl ⟨rfl,rfl,rfl⟩;have i:aa [] wr (wr.alloc (.cells #[I 0,I 0,.string ⟨#[]⟩] 60)):=(aa.refl [] wr).alloc _;have B:Z (∀W,aa [] wr W->Calls Tryz.prog 136 #[.slice p y E,.agg #[I 0,I 0,.string ⟨#[]⟩]] W (bx W p (L++cP ⟨0,0,⟨#[]⟩⟩))):=bZ (fun W k=>qr _ p y E _ ⟨0,0,⟨#[]⟩⟩ f (ab a.o.own k) O);replace i:=bZ i;replace f:=bZ f;have H:(0<=x/\x<(n:Int))=False:=eq_false t;by_cases a3:0<=x
   ·have a9:¬x<(n:Int):=fun h=>t ⟨a3,h⟩;clear t H;go_wp2_with (refine(B.o _ i.o).mono ?_;rintro e w3 ⟨D,z,F,rfl,r⟩);have b:Z (bC w none w3 D z F (L++cP ⟨0,0,⟨#[]⟩⟩)):=bZ ((a.o.keep i.o).then_ r.o);have u:z<=18*(j+1):=by
     have N:=b.o.len;have h2:=a.o.len;have h3:=(gM f.o).2;rw[CU] at N;omega
    go_roundw
    case rel=>exact⟨j+1,z,D,F,_,by omega,by go_num,rfl,u,b⟩
    case measure=>simp[intOf];omega
   clear t H;go_wp2_with (refine(B.o _ i.o).mono ?_;rintro e w3 ⟨D,z,F,rfl,r⟩);have b:Z (bC w none w3 D z F (L++cP ⟨0,0,⟨#[]⟩⟩)):=bZ ((a.o.keep i.o).then_ r.o);have u:z<=18*(j+1):=by
    have N:=b.o.len;have h2:=a.o.len;have h3:=(gM f.o).2;rw[CU] at N;omega
   go_roundw
   case rel=>exact⟨j+1,z,D,F,_,by omega,by go_num,rfl,u,b⟩
   case measure=>simp[intOf];omega
  obtain rfl:j=m:=by omega
  have J:Z (Bts wr p L/\L.length=y):=bZ ⟨(bK a.o.own).1,(bK a.o.own).2.1⟩;have hk:=bZ a.o.kp0;clear a;go_wp2_with (refine br rfl 79 9 (.tmp 31) rfl 5 Tryz.underlying79 Tryz.underlying5 Tryz.underlying9 p L y E rfl J.o.2 J.o.1 ?_);go_ret;exact⟨⟨_,rfl,by show L.toArray.size<=1000000;rw[Ew,J.o.2];omega⟩,hk⟩
def str (l:List UInt8):ByteArray:=⟨l.toArray⟩
theorem gw (l:List UInt8):(str l).data.toList=l:=rfl
theorem gu (l:List UInt8):(str l).size=l.length:=rfl
theorem iX {a b:ByteArray} (h:a.data.toList=b.data.toList):a=b:=by
 obtain⟨⟨a⟩⟩:=a;obtain⟨⟨b⟩⟩:=b;cases h;rfl
theorem tY (l:List UInt8) (a b:Nat):(str l).extract a b=str ((l.drop a).take (b - a)):=by
 apply iX;rw[Lib.extract_data,gw,gw]
theorem mU (l:List UInt8) (a:Nat):(str l).extract a (str l).size=str (l.drop a):=by
 apply iX;rw[Lib.extract_to_end,gw,gw]
theorem pN (l:List UInt8) (i:Nat) (h:i<(str l).size):(str l)[i]'h=l[i]'(by rw[<-gu];exact h):=rfl
theorem BP (w:World) (s:ByteArray) (c:Int):(callFunc 211 #[.string s,.int .u8 c]).run Tryz.prog w=.ok (.value (I (Lib.indexByte s.data.toList c.toNat.toUInt8))) w:=by
 rw[run_callFunc_extern Tryz.func211 (by kernel_rfl) (by kernel_rfl) (by kernel_rfl) (e:=Extern.BytealgIndexByte.indexByte) (by kernel_rfl),Lib.run_indexByteString];rfl
theorem kJ:∀(t r:List UInt8) (c:UInt8),c∉t->Lib.indexByte (t++c::r) c=t.length
 | [],r,c,_=>by simp[Lib.indexByte]
 | b::t,r,c,h=>by
  have a:(b==c)=false:=by
   rw[beq_eq_false_iff_ne];intro d;exact h (by simp[d])
  have f:=kJ t r c (fun e=>h (DL _ e));rw[D3,Lib.indexByte,a,f,if_neg (by simp),if_neg (by rw[beq_iff_eq];omega),Dj];omega
theorem nL:∀(t:List UInt8) (c:UInt8),c∉t->Lib.indexByte t c= -1
 | [],c,_=>rfl
 | b::t,c,h=>by
  have a:(b==c)=false:=by
   rw[beq_eq_false_iff_ne];intro d;exact h (by simp[d])
  have f:=nL t c (fun e=>h (DL _ e));rw[Lib.indexByte,a,f,if_neg (by simp),if_pos (by rfl)]
theorem jC (w:World) (s:ByteArray) (c:Int):Calls Tryz.prog 165 #[.string s,.int .u8 c] w fun e w'=>e=.returned (I (Lib.indexByte s.data.toList c.toNat.toUInt8))/\w'=w:=by
 have b:=BP w s c;have a:Calls Tryz.prog 190 #[.string s,.int .u8 c] w fun e w'=>e=.returned (I (Lib.indexByte s.data.toList c.toNat.toUInt8))/\w'=w:=by
  go_enter Tryz.func190,Tryz.ntmps190;go_wp2_with (simp only[b]);go_ret;exact⟨rfl,rfl⟩
 go_enter Tryz.func165,Tryz.ntmps165;go_wp2_with (refine a.mono ?_;rintro e w' ⟨rfl,rfl⟩);go_ret;exact⟨rfl,rfl⟩
theorem sX (w:World) (r:List UInt8):Calls Tryz.prog 147 #[.string (str (1::r))] w fun e w'=>e=.returned (.tuple #[jJ ⟨0,0,⟨#[]⟩⟩,I 1])/\Z (aa [] w w'):=by
 have c:(str (1::r)).size=r.length+1:=by rw[gu,Dj]
 have b:0<(str (1::r)).size:=by omega
 have a:((str (1::r))[0]'b).toNat=1:=by rw[pN];rfl
 obtain⟨s,d⟩:∃s,s=str (1::r):=⟨_,rfl⟩;simp only[<-d] at c b a ⊢;have f:(s[0]'b).toNat=1:=a;clear a d;unfold jJ;go_enter Tryz.func147,Tryz.ntmps147;go_wp2_with fail;have B:=Blk.new w 60 #[I 0,I 0,.string ⟨#[]⟩];refine bodyPost_ret (v:=.tuple #[.agg #[I 0,I 0,.string ⟨#[]⟩],I 1]) (by simp[results,Tryz.results147,go_sem]) rfl ?_;exact⟨rfl,bZ ((aa.refl [] w).alloc _)⟩
theorem vT (w:World) (n:Int) (j: -9223372036854775808<=n/\n<9223372036854775808) (r:List UInt8):Calls Tryz.prog 147 #[.string (str (2::(Cod.num n++r)))] w fun e w'=>e=.returned (.tuple #[jJ ⟨1,n,⟨#[]⟩⟩,I 9])/\Z (aa [] w w'):=by
 have a:(str (2::(Cod.num n++r))).size=r.length+9:=by rw[gu,Dj,CU,Cod.ag];omega
 have d:0<(str (2::(Cod.num n++r))).size:=by omega
 have c:((str (2::(Cod.num n++r)))[0]'d).toNat=2:=by rw[pN];rfl
 have g:(str (2::(Cod.num n++r))).extract 1 9=⟨(Cod.num n).toArray⟩:=by
  rw[tY,List.drop_succ_cons,EE,DS (by rw[Cod.ag])];rfl
 have b:Z (∀W,Calls Tryz.prog 59 #[.string ⟨(Cod.num n).toArray⟩] W fun e w'=>e=.returned (.tuple #[I n,I 0])/\W=w'):=bZ (fun W=>by
  have:=lC W (Cod.num n) (Cod.ag n);rwa [qe n j] at this)
 obtain⟨s,f⟩:∃s,s=str (2::(Cod.num n++r)):=⟨_,rfl⟩;simp only[<-f] at a d c g ⊢;have i:(s[0]'d).toNat=2:=c;have k:9<=s.size:=by omega
 have h:(9:Int)<=(s.size:Int):=by omega
 clear c f;replace a:=bZ a;unfold jJ;go_enter Tryz.func147,Tryz.ntmps147;go_wp2_with (first | (rw[g];refine(b.o _).mono ?_;rintro e w' ⟨rfl,rfl⟩) | (refine(b.o _).mono ?_;rintro e w' ⟨rfl,rfl⟩));have B:=Blk.new w 60 #[I 1,I n,.string ⟨#[]⟩];refine bodyPost_ret (v:=.tuple #[.agg #[I 1,I n,.string ⟨#[]⟩],I 9]) (by simp[results,Tryz.results147,go_sem]) rfl ?_;exact⟨rfl,bZ ((aa.refl [] w).alloc _)⟩
theorem sW (w:World) (q:List UInt8) (k:∀b∈q,32<=b.toNat/\b.toNat<=126) (l:q.length<=1000) (r:List UInt8) (H:r.length<=1000000):Calls Tryz.prog 147 #[.string (str (3::(q++0::r)))] w fun e w'=>e=.returned (.tuple #[jJ ⟨2,0,str q⟩,I (((q.length+2:Nat)):Int)])/\Z (aa [] w w'):=by
 have t:(0:UInt8)∉q:=fun d=>by have n:=k _ d;have A:(0:UInt8).toNat=0:=rfl;omega
 have u:(1:UInt8)∉q:=fun d=>by have n:=k _ d;have A:(1:UInt8).toNat=1:=rfl;omega
 have a:(str (3::(q++0::r))).size=r.length+q.length+2:=by rw[gu,Dj,CU,Dj];omega
 have j:0<(str (3::(q++0::r))).size:=by omega
 have i:((str (3::(q++0::r)))[0]'j).toNat=3:=by rw[pN];rfl
 have h:(str (3::(q++0::r))).extract 1 (str (3::(q++0::r))).size=str (q++0::r):=by rw[mU];rfl
 have f:(str (3::(q++0::r))).extract 1 (q.length+1)=str q:=by
  rw[tY,List.drop_succ_cons,EE,Nat.add_sub_cancel,DS rfl]
 have c:Z (∀W,Calls Tryz.prog 165 #[.string (str (q++0::r)),.int .u8 0] W fun e w'=>e=.returned (I (q.length:Int))/\w'=W):=bZ (fun W=>by
  have:=jC W (str (q++0::r)) 0;rwa [gw,show ((0:Int).toNat.toUInt8)=0 from rfl,kJ q r 0 t] at this)
 have g:Z (∀W,Calls Tryz.prog 165 #[.string (str q),.int .u8 1] W fun e w'=>e=.returned (I (-1))/\w'=W):=bZ (fun W=>by
  have:=jC W (str q) 1;rwa [gw,show ((1:Int).toNat.toUInt8)=1 from rfl,nL q 1 u] at this)
 obtain⟨s,p⟩:∃s,s=str (3::(q++0::r)):=⟨_,rfl⟩;simp only[<-p] at a j i h f ⊢;have C:(s[0]'j).toNat=3:=i;obtain⟨m,d⟩:∃m,m=q.length:=⟨_,rfl⟩;rw[<-d] at a f c l ⊢;have n:1<=s.size:=by omega
 have z:m+1<=s.size:=by omega
 have y:(m:Int)+1<=(s.size:Int):=by omega
 have x:(0:Int)<=(m:Int):=by omega
 have D:m+1≠0:=by omega
 have E:IntKind.i64.wrap ((m:Int)+1)=((m+1:Nat):Int):=by rw[C0 _ (by omega)];rfl
 have F:IntKind.i64.wrap ((m:Int)+2)=((m+2:Nat):Int):=by rw[C0 _ (by omega)];rfl
 clear i p k t u;replace a:=bZ a;replace d:=bZ d;unfold jJ;go_enter Tryz.func147,Tryz.ntmps147;go_wp2_with (first | (rw[h];refine(c.o _).mono ?_;rintro e w' ⟨rfl,rfl⟩) | (rw[f];refine(g.o _).mono ?_;rintro e w' ⟨rfl,rfl⟩) | (refine(c.o _).mono ?_;rintro e w' ⟨rfl,rfl⟩) | (refine(g.o _).mono ?_;rintro e w' ⟨rfl,rfl⟩));have B:=Blk.new w 60 #[I 2,I 0,.string (str q)];refine bodyPost_ret (v:=.tuple #[.agg #[I 2,I 0,.string (str q)],I ((m+2:Nat):Int)]) (by simp[results,Tryz.results147,go_sem]) rfl ?_;exact⟨rfl,bZ ((aa.refl [] w).alloc _)⟩
theorem oL (w:World) (s:ByteArray) (q:s.size<=16) (d:∀b∈s.data.toList,32<=b.toNat/\b.toNat<=126):Calls Tryz.prog 107 #[.string s] w fun e w'=>e=.returned (.bool true)/\w=w':=by
 replace d:=bZ d;go_enter Tryz.func107,Tryz.ntmps107;go_wp2_with fail;go_loopw [6] (fun c wr=>∃j:Nat,j<=s.size/\c=I (j:Int)/\w=wr) (fun c _=>s.size - (intOf c).toNat)
 case atStart=>exact⟨0,C3 _,rfl,rfl⟩
 obtain⟨j,p,rfl,rfl⟩:=hrel;by_cases a:j<s.size
 ·have i:(j:Int)<(s.size:Int):=by omega
  have h:=d.o (s[j]'a) (by have g:s[j]'a=s.data.toList[j]'(by rw[DO];exact a):=rfl;rw[g];exact List.getElem_mem _);have k:((s[j]'a).toNat<32)=False:=eq_false (by omega);have l:(126<(s[j]'a).toNat)=False:=eq_false (by omega);have m:(((s[j]'a).toNat:Int)<32)=False:=eq_false (by omega);have n:(126<((s[j]'a).toNat:Int))=False:=eq_false (by omega);have r:IntKind.i64.wrap ((j:Int)+1)=(j:Int)+1:=C0 _ (by omega);clear h;go_wp2_with fail;go_roundw
  case rel=>exact⟨j+1,by omega,by go_num,by trivial⟩
  case measure=>simp[intOf];omega
 obtain rfl:j=s.size:=by omega
 have f:(s.size:Int)<=16:=by omega
 go_wp2_with fail;go_ret;exact⟨rfl,by trivial⟩
theorem eV (w:World) (v:Val) (d:v.ok):Calls Tryz.prog 76 #[jJ v] w fun e w'=>e=.returned (.bool true)/\Z (aa [] w w'):=by
 obtain⟨k,m,s⟩:=v;unfold jJ;rcases d with ⟨rfl,rfl,rfl⟩ | ⟨rfl,f,rfl⟩ | ⟨rfl,rfl,c,b⟩
 ·go_enter Tryz.func76,Tryz.ntmps76;go_wp2_with fail;go_ret;exact⟨rfl,bZ ((aa.refl [] w).alloc _)⟩
 ·go_enter Tryz.func76,Tryz.ntmps76;go_wp2_with fail;go_ret;exact⟨rfl,bZ ((aa.refl [] w).alloc _)⟩
 have a:Z (∀W,Calls Tryz.prog 107 #[.string s] W fun e w'=>e=.returned (.bool true)/\W=w'):=bZ (fun W=>oL W s c b);replace c:=bZ c;replace b:=bZ b;go_enter Tryz.func76,Tryz.ntmps76;go_wp2_with (refine(a.o _).mono ?_;rintro e w' ⟨rfl,rfl⟩);go_ret;exact⟨rfl,bZ ((aa.refl [] w).alloc _)⟩
def Cc (s:ByteArray):Prop:=s.size<=16/\∀b∈s.data.toList,32<=b.toNat/\b.toNat<=126
theorem pW (w:World) (s:ByteArray) (u:s.size<=1000000) (c:¬Cc s):Calls Tryz.prog 107 #[.string s] w fun e w'=>e=.returned (.bool false)/\w=w':=by
 replace c:=bZ c;go_enter Tryz.func107,Tryz.ntmps107;go_wp2_with fail;go_loopw [6] (fun d wr=>∃j:Nat,j<=s.size/\d=I (j:Int)/\Z (∀b∈s.data.toList.take j,32<=b.toNat/\b.toNat<=126)/\w=wr) (fun d _=>s.size - (intOf d).toNat)
 case atStart=>exact⟨0,C3 _,rfl,bZ (by simp),rfl⟩
 obtain⟨j,x,rfl,g,rfl⟩:=hrel;by_cases a:j<s.size
 ·have v:(j:Int)<(s.size:Int):=by omega
  have y:IntKind.i64.wrap ((j:Int)+1)=(j:Int)+1:=C0 _ (by omega);by_cases l:(s[j]'a).toNat<32
  ·have r:((s[j]'a).toNat:Int)<32:=by omega
   go_wp2_with fail;go_ret;exact⟨rfl,by trivial⟩
  have m:((s[j]'a).toNat<32)=False:=eq_false l;have r:(((s[j]'a).toNat:Int)<32)=False:=eq_false (by omega);by_cases p:126<(s[j]'a).toNat
  ·have t:126<((s[j]'a).toNat:Int):=by omega
   go_wp2_with fail;go_ret;exact⟨rfl,by trivial⟩
  have q:(126<(s[j]'a).toNat)=False:=eq_false p;have t:(126<((s[j]'a).toNat:Int))=False:=eq_false (by omega);have i:Z (∀b∈s.data.toList.take (j+1),32<=b.toNat/\b.toNat<=126):=bZ (by
   rw[j5 a];intro b f;rcases CX.1 f with f | f
   ·exact g.o b f
   obtain rfl:b=s[j]'a:=by simpa using f
   exact⟨by omega,by omega⟩)
  clear g;go_wp2_with fail;go_roundw
  case rel=>exact⟨j+1,by omega,by go_num,i,by trivial⟩
  case measure=>simp[intOf];omega
 obtain rfl:j=s.size:=by omega
 have n:¬(s.size:Int)<=16:=fun h=>c.o ⟨by omega,by
  have:=g.o;rwa [C6 (by rw[DO];exact C9 _)] at this⟩
 have k:¬s.size<=16:=by omega
 go_wp2_with fail;go_ret;exact⟨rfl,by trivial⟩
theorem wX (w:World) (v:Val) (d:v.s.size<=1000000) (a:¬v.ok) (p: -9223372036854775808<=v.n/\v.n<9223372036854775808):Calls Tryz.prog 76 #[jJ v] w fun e w'=>e=.returned (.bool false)/\Z (aa [] w w'):=by
 obtain⟨k,m,s⟩:=v;unfold jJ;dsimp only at d p;by_cases f:k=0
 ·subst f;by_cases c:m=0
  ·subst c;have i:¬s=⟨#[]⟩:=fun h=>a (.inl ⟨rfl,rfl,h⟩);have b:¬s.toList=[]:=fun h=>i (iX (by rw[<-Lib.toList_data,h]));have j:(s.toList=[])=False:=eq_false b;clear a;go_enter Tryz.func76,Tryz.ntmps76;go_wp2_with fail;go_ret;exact⟨by simp,bZ ((aa.refl [] w).alloc _)⟩
  clear a;have r:¬0=m:=fun h=>c h.symm;have t:(m==0)=false:=beq_false_of_ne c;go_enter Tryz.func76,Tryz.ntmps76;go_wp2_with fail;go_ret;exact⟨by simp[c],bZ ((aa.refl [] w).alloc _)⟩
 by_cases l:k=1
 ·subst l;have i:¬s=⟨#[]⟩:=fun h=>a (.inr (.inl ⟨rfl,p,h⟩));have b:¬s.toList=[]:=fun h=>i (iX (by rw[<-Lib.toList_data,h]));have j:(s.toList=[])=False:=eq_false b;clear a f;go_enter Tryz.func76,Tryz.ntmps76;go_wp2_with fail;go_ret;exact⟨by simp[b],bZ ((aa.refl [] w).alloc _)⟩
 by_cases q:k=2
 ·subst q;clear f l;by_cases c:m=0
  ·subst c;have g:Z (∀W,Calls Tryz.prog 107 #[.string s] W fun e w'=>e=.returned (.bool false)/\W=w'):=bZ (fun W=>pW W s d (fun h=>a (.inr (.inr ⟨rfl,rfl,h.1,h.2⟩))));clear a;go_enter Tryz.func76,Tryz.ntmps76;go_wp2_with (refine(g.o _).mono ?_;rintro e w' ⟨rfl,rfl⟩);go_ret;exact⟨rfl,bZ ((aa.refl [] w).alloc _)⟩
  clear a;go_enter Tryz.func76,Tryz.ntmps76;go_wp2_with fail;go_ret;exact⟨rfl,bZ ((aa.refl [] w).alloc _)⟩
 clear a;go_enter Tryz.func76,Tryz.ntmps76;go_wp2_with fail;go_ret;exact⟨rfl,bZ ((aa.refl [] w).alloc _)⟩
def okB (v:Val):Bool:=decide ((v.k=0/\v.n=0/\v.s=⟨#[]⟩)\/(v.k=1/\(-9223372036854775808<=v.n/\v.n<9223372036854775808)/\v.s=⟨#[]⟩)\/(v.k=2/\v.n=0/\v.s.size<=16/\∀b∈v.s.data.toList,32<=b.toNat/\b.toNat<=126))
theorem bT {v:Val}:okB v=true↔v.ok:=by unfold okB;exact decide_eq_true_iff
def Val.fits (v:Val):Prop:=v.s.size<=1000000/\(-9223372036854775808<=v.n/\v.n<9223372036854775808)
theorem lm (w:World) (v:Val) (a:v.fits):Calls Tryz.prog 76 #[jJ v] w fun e w'=>e=.returned (.bool (okB v))/\Z (aa [] w w'):=by
 by_cases h:v.ok
 ·rw[bT.2 h];exact eV w v h
 rw[show okB v=false from by
  cases b:okB v with
  | true=>exact absurd (bT.1 b) h
  | false=>rfl]
 exact wX w v a.1 h a.2
theorem dI {v:Val} (h:v.ok):v.fits:=by
 rcases h with ⟨_,a,b⟩ | ⟨_,a,b⟩ | ⟨_,a,b,_⟩
 ·rw[Val.fits,a,b];exact⟨by decide,by decide⟩
 ·rw[Val.fits,b];exact⟨by decide,a⟩
 rw[Val.fits,a];exact⟨by omega,by decide⟩
theorem Cr (w:World) (v:Val) (c:v.fits):Calls Tryz.prog 75 #[.agg #[I v.k,I v.n,.string v.s]] w fun e w'=>e=.returned (.bool (!okB v))/\Z (aa [] w w'):=by
 obtain⟨f,b⟩:∃x,x=w.alloc (.cells #[I v.k,I v.n,.string v.s] 60):=⟨_,rfl⟩;have a:Z (∀W,Calls Tryz.prog 76 #[.agg #[I v.k,I v.n,.string v.s]] W fun e w'=>e=.returned (.bool (okB v))/\Z (aa [] W w')):=bZ (fun W=>lm W v c);clear b f;go_enter Tryz.func75,Tryz.ntmps75;go_wp2_with (refine(a.o _).mono ?_;rintro e w' ⟨rfl,d⟩);go_ret;exact⟨rfl,bZ (((aa.refl [] w).alloc _).trans d.o)⟩
theorem BW (w:World) (v:Val) (c:v.fits):Calls Tryz.prog 123 #[.agg #[I v.k,I v.n,.string v.s]] w fun e w'=>e=.returned (.bool (!okB v))/\Z (aa [] w w'):=by
 obtain⟨f,b⟩:∃x,x=w.alloc (.cells #[I v.k,I v.n,.string v.s] 60):=⟨_,rfl⟩;have a:Z (∀W,Calls Tryz.prog 76 #[.agg #[I v.k,I v.n,.string v.s]] W fun e w'=>e=.returned (.bool (okB v))/\Z (aa [] W w')):=bZ (fun W=>lm W v c);clear b f;go_enter Tryz.func123,Tryz.ntmps123;go_wp2_with (refine(a.o _).mono ?_;rintro e w' ⟨rfl,d⟩);go_ret;exact⟨rfl,bZ (((aa.refl [] w).alloc _).trans d.o)⟩
theorem BU (w:World) (v:Val) (c:v.fits):Calls Tryz.prog 148 #[.agg #[I v.k,I v.n,.string v.s]] w fun e w'=>e=.returned (.bool (!okB v))/\Z (aa [] w w'):=by
 obtain⟨f,b⟩:∃x,x=w.alloc (.cells #[I v.k,I v.n,.string v.s] 60):=⟨_,rfl⟩;have a:Z (∀W,Calls Tryz.prog 76 #[.agg #[I v.k,I v.n,.string v.s]] W fun e w'=>e=.returned (.bool (okB v))/\Z (aa [] W w')):=bZ (fun W=>lm W v c);clear b f;go_enter Tryz.func148,Tryz.ntmps148;go_wp2_with (refine(a.o _).mono ?_;rintro e w' ⟨rfl,d⟩);go_ret;exact⟨rfl,bZ (((aa.refl [] w).alloc _).trans d.o)⟩
def dF (l:List Val):Bool:=l.all okB
theorem cE {l:List Val}:dF l=true↔∀v∈l,v.ok:=by
 unfold dF;rw[List.all_eq_true];exact⟨fun h v a=>bT.1 (h v a),fun h v a=>bT.2 (h v a)⟩
theorem pJ {l:List Val} {j:Nat} {v:Val} (h:∀x∈l.take j,x.ok) (c:l[j]? =some v) (b:v.ok):∀x∈l.take (j+1),x.ok:=by
 rw[Dq,c];intro x a;rcases CX.1 a with a | a
 ·exact h x a
 obtain rfl:x=v:=by simpa using a
 exact b
def qz (l:List Val) (w:World) (e:Ending) (w':World):Prop:=∃i:Int,e=.returned (I i)/\(0<=i↔dF l=false)/\(-1<=i/\i<=100000)/\Z (aa [] w w')
theorem Aj (w:World) (A:Option Addr) (l:List Val) (n c:Nat) (x:l.length=n) (y:ah w [] A l) (J:n<=10000) (C:∀v∈l,v.fits):
 Calls Tryz.prog 105 #[.slice A n c,.func (.func 75) #[] #[]] w (qz l w):=by
  replace y:=bZ y;replace C:=bZ C;replace x:=bZ x;go_enter Tryz.func105,Tryz.ntmps105;go_wp2_with fail;go_loopw [8] (fun i wr=>∃j:Nat,j<=n/\i=I (j:Int)/\Z (∀v∈l.take j,v.ok)/\Z (aa [] w wr)) (fun i _=>n - (intOf i).toNat)
  case atStart=>exact⟨0,C3 _,rfl,bZ (by simp),bZ (aa.refl _ _)⟩
  obtain⟨j,H,rfl,q,u⟩:=hrel;by_cases B:j<n
  ·have D:(j:Int)<(n:Int):=by omega
   obtain⟨v,a⟩:∃v,l[j]? =some v:=⟨_,CT (by rw[x.o];exact B)⟩;obtain⟨g,off,rfl,F,L,M,N⟩:=(y.o.keep u.o (by simp)) j v a;have d:Z (∀W,Calls Tryz.prog 75 #[.agg #[I v.k,I v.n,.string v.s]] W fun e w'=>e=.returned (.bool (!okB v))/\Z (aa [] W w')):=bZ (fun W=>Cr W v (C.o v (CW a)));have K:IntKind.i64.wrap ((j:Int)+1)=(j:Int)+1:=C0 _ (by omega);have p:=bZ (CW a);replace a:=bZ a;by_cases m:v.ok
   ·rw[bT.2 m] at d;have r:=bZ (pJ q.o a.o m);clear m;go_wp2_with (refine(d.o _).mono ?_;rintro e w3 ⟨rfl,f⟩);have z:=bZ (u.o.trans f.o);go_roundw
    case rel=>exact⟨j+1,by omega,by go_num,r,z⟩
    case measure=>simp[intOf];omega
   have t:okB v=false:=by
    cases t:okB v with
    | true=>exact absurd (bT.1 t) m
    | false=>rfl
   rw[t] at d;have b:Z (dF l=false):=bZ (by
    cases E:dF l with
    | true=>exact absurd (cE.1 E v p.o) m
    | false=>rfl)
   clear m t;go_wp2_with (refine(d.o _).mono ?_;rintro e w3 ⟨rfl,f⟩);go_ret;exact⟨(j:Int),rfl,⟨fun _=>b.o,fun _=>by omega⟩,⟨by omega,by omega⟩,bZ (u.o.trans f.o)⟩
  obtain rfl:j=n:=by omega
  have b:Z (dF l=true):=bZ (cE.2 (by have:=q.o;rwa [C6 (by rw[x.o];exact C9 _)] at this));go_wp2_with fail;go_ret;exact⟨-1,rfl,⟨fun h=>by omega,fun h=>by rw[b.o] at h;cases h⟩,⟨by omega,by omega⟩,u⟩
theorem tm (w:World) (A:Option Addr) (l:List Val) (n c:Nat) (g:l.length=n) (d:ah w [] A l) (q:n<=10000) (j:∀v∈l,v.fits):
 Calls Tryz.prog 73 #[.slice A n c,.func (.func 75) #[] #[]] w fun e w'=>e=.returned (.bool (!dF l))/\Z (aa [] w w'):=by
  have H:=bZ (Aj w A l n c g d q j);clear d j g;go_enter Tryz.func73,Tryz.ntmps73;go_wp2_with (refine H.o.mono ?_;rintro e w' ⟨i,rfl,f,⟨k,m⟩,p⟩);go_ret;refine⟨?_,p⟩;cases b:dF l with
  | true=>
   have a:¬0<=i:=fun h=>by rw[f.1 h] at b;cases b
   simp[a]
  | false=>
   have a:0<=i:=f.2 b;simp[a]
theorem yw (w:World) (A:Option Addr) (l:List Val) (n c:Nat) (x:l.length=n) (y:ah w [] A l) (J:n<=10000) (C:∀v∈l,v.fits):
 Calls Tryz.prog 105 #[.slice A n c,.func (.func 123) #[] #[]] w (qz l w):=by
  replace y:=bZ y;replace C:=bZ C;replace x:=bZ x;go_enter Tryz.func105,Tryz.ntmps105;go_wp2_with fail;go_loopw [8] (fun i wr=>∃j:Nat,j<=n/\i=I (j:Int)/\Z (∀v∈l.take j,v.ok)/\Z (aa [] w wr)) (fun i _=>n - (intOf i).toNat)
  case atStart=>exact⟨0,C3 _,rfl,bZ (by simp),bZ (aa.refl _ _)⟩
  obtain⟨j,H,rfl,q,u⟩:=hrel;by_cases B:j<n
  ·have D:(j:Int)<(n:Int):=by omega
   obtain⟨v,a⟩:∃v,l[j]? =some v:=⟨_,CT (by rw[x.o];exact B)⟩;obtain⟨g,off,rfl,F,L,M,N⟩:=(y.o.keep u.o (by simp)) j v a;have d:Z (∀W,Calls Tryz.prog 123 #[.agg #[I v.k,I v.n,.string v.s]] W fun e w'=>e=.returned (.bool (!okB v))/\Z (aa [] W w')):=bZ (fun W=>BW W v (C.o v (CW a)));have K:IntKind.i64.wrap ((j:Int)+1)=(j:Int)+1:=C0 _ (by omega);have p:=bZ (CW a);replace a:=bZ a;by_cases m:v.ok
   ·rw[bT.2 m] at d;have r:=bZ (pJ q.o a.o m);clear m;go_wp2_with (refine(d.o _).mono ?_;rintro e w3 ⟨rfl,f⟩);have z:=bZ (u.o.trans f.o);go_roundw
    case rel=>exact⟨j+1,by omega,by go_num,r,z⟩
    case measure=>simp[intOf];omega
   have t:okB v=false:=by
    cases t:okB v with
    | true=>exact absurd (bT.1 t) m
    | false=>rfl
   rw[t] at d;have b:Z (dF l=false):=bZ (by
    cases E:dF l with
    | true=>exact absurd (cE.1 E v p.o) m
    | false=>rfl)
   clear m t;go_wp2_with (refine(d.o _).mono ?_;rintro e w3 ⟨rfl,f⟩);go_ret;exact⟨(j:Int),rfl,⟨fun _=>b.o,fun _=>by omega⟩,⟨by omega,by omega⟩,bZ (u.o.trans f.o)⟩
  obtain rfl:j=n:=by omega
  have b:Z (dF l=true):=bZ (cE.2 (by have:=q.o;rwa [C6 (by rw[x.o];exact C9 _)] at this));go_wp2_with fail;go_ret;exact⟨-1,rfl,⟨fun h=>by omega,fun h=>by rw[b.o] at h;cases h⟩,⟨by omega,by omega⟩,u⟩
theorem rU (w:World) (A:Option Addr) (l:List Val) (n c:Nat) (g:l.length=n) (d:ah w [] A l) (q:n<=10000) (j:∀v∈l,v.fits):
 Calls Tryz.prog 73 #[.slice A n c,.func (.func 123) #[] #[]] w fun e w'=>e=.returned (.bool (!dF l))/\Z (aa [] w w'):=by
  have H:=bZ (yw w A l n c g d q j);clear d j g;go_enter Tryz.func73,Tryz.ntmps73;go_wp2_with (refine H.o.mono ?_;rintro e w' ⟨i,rfl,f,⟨k,m⟩,p⟩);go_ret;refine⟨?_,p⟩;cases b:dF l with
  | true=>
   have a:¬0<=i:=fun h=>by rw[f.1 h] at b;cases b
   simp[a]
  | false=>
   have a:0<=i:=f.2 b;simp[a]
theorem yt (w:World) (A:Option Addr) (l:List Val) (n c:Nat) (x:l.length=n) (y:ah w [] A l) (J:n<=10000) (C:∀v∈l,v.fits):
 Calls Tryz.prog 105 #[.slice A n c,.func (.func 148) #[] #[]] w (qz l w):=by
  replace y:=bZ y;replace C:=bZ C;replace x:=bZ x;go_enter Tryz.func105,Tryz.ntmps105;go_wp2_with fail;go_loopw [8] (fun i wr=>∃j:Nat,j<=n/\i=I (j:Int)/\Z (∀v∈l.take j,v.ok)/\Z (aa [] w wr)) (fun i _=>n - (intOf i).toNat)
  case atStart=>exact⟨0,C3 _,rfl,bZ (by simp),bZ (aa.refl _ _)⟩
  obtain⟨j,H,rfl,q,u⟩:=hrel;by_cases B:j<n
  ·have D:(j:Int)<(n:Int):=by omega
   obtain⟨v,a⟩:∃v,l[j]? =some v:=⟨_,CT (by rw[x.o];exact B)⟩;obtain⟨g,off,rfl,F,L,M,N⟩:=(y.o.keep u.o (by simp)) j v a;have d:Z (∀W,Calls Tryz.prog 148 #[.agg #[I v.k,I v.n,.string v.s]] W fun e w'=>e=.returned (.bool (!okB v))/\Z (aa [] W w')):=bZ (fun W=>BU W v (C.o v (CW a)));have K:IntKind.i64.wrap ((j:Int)+1)=(j:Int)+1:=C0 _ (by omega);have p:=bZ (CW a);replace a:=bZ a;by_cases m:v.ok
   ·rw[bT.2 m] at d;have r:=bZ (pJ q.o a.o m);clear m;go_wp2_with (refine(d.o _).mono ?_;rintro e w3 ⟨rfl,f⟩);have z:=bZ (u.o.trans f.o);go_roundw
    case rel=>exact⟨j+1,by omega,by go_num,r,z⟩
    case measure=>simp[intOf];omega
   have t:okB v=false:=by
    cases t:okB v with
    | true=>exact absurd (bT.1 t) m
    | false=>rfl
   rw[t] at d;have b:Z (dF l=false):=bZ (by
    cases E:dF l with
    | true=>exact absurd (cE.1 E v p.o) m
    | false=>rfl)
   clear m t;go_wp2_with (refine(d.o _).mono ?_;rintro e w3 ⟨rfl,f⟩);go_ret;exact⟨(j:Int),rfl,⟨fun _=>b.o,fun _=>by omega⟩,⟨by omega,by omega⟩,bZ (u.o.trans f.o)⟩
  obtain rfl:j=n:=by omega
  have b:Z (dF l=true):=bZ (cE.2 (by have:=q.o;rwa [C6 (by rw[x.o];exact C9 _)] at this));go_wp2_with fail;go_ret;exact⟨-1,rfl,⟨fun h=>by omega,fun h=>by rw[b.o] at h;cases h⟩,⟨by omega,by omega⟩,u⟩
theorem rS (w:World) (A:Option Addr) (l:List Val) (n c:Nat) (g:l.length=n) (d:ah w [] A l) (q:n<=10000) (j:∀v∈l,v.fits):
 Calls Tryz.prog 73 #[.slice A n c,.func (.func 148) #[] #[]] w fun e w'=>e=.returned (.bool (!dF l))/\Z (aa [] w w'):=by
  have H:=bZ (yt w A l n c g d q j);clear d j g;go_enter Tryz.func73,Tryz.ntmps73;go_wp2_with (refine H.o.mono ?_;rintro e w' ⟨i,rfl,f,⟨k,m⟩,p⟩);go_ret;refine⟨?_,p⟩;cases b:dF l with
  | true=>
   have a:¬0<=i:=fun h=>by rw[f.1 h] at b;cases b
   simp[a]
  | false=>
   have a:0<=i:=f.2 b;simp[a]
end Go.Proofs.YtmlmfpikncogpaaGreat
